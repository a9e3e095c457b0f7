/- Who may do what: the law on the group class. -/
import Derived.Test.YtjampjbhaekjbaaGrantJ
namespace Go.Proofs.Ytjampjbhaekjbaa
open Go Go.Par PH
attribute [local irreducible] W WL Does Exec Body Then inBlk RG WR row obj pblk
attribute [local irreducible] bits
set_option maxHeartbeats 4000000 in
theorem class_law (h : PH) (c : Cred) (cv : Value) (a : Attr) (v : Value) (dir : Bool) (want : Int) (hc : CredV h cv c) (hv : AttrV h v a) (hok : a.Ok) (hw : u8 want) :
    Does Try.prog 5 [cv, v, .bool dir, .int .u8 want] [] h (Ret fun r _ _ => r = .bool true) := by
  have c1 := large12_fn h c cv a v hc hv
  have hc' := hc
  have hv' := hv
  obtain ⟨x, rfl, hx⟩ := hc
  obtain ⟨xa, xc, rfl⟩ := hx.shape
  obtain ⟨u, g, u2, g2, xv, rfl, h1, h2, h3, h4, h5⟩ := hv
  obtain ⟨ua, uc, rfl⟩ := h1.shape
  obtain ⟨ga, gc, rfl⟩ := h2.shape
  obtain ⟨va, vc, rfl⟩ := h3.shape
  obtain ⟨wa, wc, rfl⟩ := h4.shape
  obtain ⟨ya, yc, rfl⟩ := h5.shape
  unfold attrV
  refine Does_of_W Try.func5 rfl (n := 116) rfl rfl (by simp only [argE, Nat.reduceAdd] <;> rfl) ?_
  (repeat (first | refine W_seq ?_))
  refine W_region rfl ?_
  (refine WL_box rfl rfl rfl rfl rfl rfl ?_; intro b_)
  generalize b_ = cb
  (refine WL_box rfl rfl rfl rfl rfl rfl ?_; intro b_)
  generalize b_ = ab
  refine WL_is (X_assign rfl rfl) rfl rfl rfl ?_
  (repeat (first | refine WL_nil ?_ | refine Then_normal ?_ | refine W_seq ?_))
  skip
  refine W_region rfl ?_
  refine WL_is (X_loadA rfl rfl (by exact idx1) rfl rfl rfl) rfl rfl rfl ?_
  refine WL_is (X_loadA rfl rfl (by exact idx0) rfl rfl rfl) rfl rfl rfl ?_
  unfold credV attrV at c1
  refine WL_call rfl rfl rfl Try.func8 rfl rfl rfl rfl c1 ?_
  rintro _ _ H1 L1 ⟨⟨b, rfl, hb⟩, rfl⟩
  simp only [List.nil_append]
  have al := alive_fn H1
  cases b with
  | true =>
    refine WL_is (X_move rfl rfl) rfl rfl rfl ?_
    refine WL_off rfl rfl rfl ?_
    refine WL_off rfl rfl rfl ?_
    refine WL_off rfl rfl rfl ?_
    refine WL_is (X_pick_t rfl rfl rfl) rfl rfl rfl ?_
    refine WL_is (X_move rfl rfl) rfl rfl rfl ?_
    refine WL_off rfl rfl rfl ?_
    refine WL_off rfl rfl rfl ?_
    refine WL_off rfl rfl rfl ?_
    refine WL_off rfl rfl rfl ?_
    refine WL_off rfl rfl rfl ?_
    refine WL_is (X_pick_t rfl rfl rfl) rfl rfl rfl ?_
    (repeat (first | refine WL_nil ?_ | refine Then_normal ?_ | refine W_seq ?_ | refine W_true rfl ?_))
    skip
    refine W_region rfl ?_
    refine WL_is (X_callv rfl rfl rfl Try.func9 rfl (by assumption)) rfl rfl rfl ?_
    refine WL_is (X_assign rfl rfl) rfl rfl rfl ?_
    (repeat (first | refine WL_nil ?_ | refine Then_normal ?_ | refine W_ret ?_ | refine Then_ret ?_))
    refine Body_end rfl rfl rfl (SubR.none _) ?_
    rfl
  | false =>
    obtain ⟨ht, h60⟩ := hb rfl
    have hs := ht.small
    have hcl : c.gs.length ≤ 1000 := by omega
    have hc1 := hc'.mono L1
    have hv1 := hv'.mono L1
    replace h1 := h1.mono L1
    replace h2 := h2.mono L1
    obtain ⟨hul, hgl⟩ := hs.acc
    have k1 := in_fn H1 c _ a.gid hc1 hcl
    have kin := fun g => in_fn H1 c _ g hc1 hcl
    have k2 := may_fn H1 c _ a _ dir want hc1 hv1 hs hok hcl
    unfold credV at k1 kin
    unfold credV attrV at k2
    by_cases u0 : c.uid = 0
    · refine WL_is (X_move rfl rfl) rfl rfl rfl ?_
      refine WL_is (X_fieldAddr rfl rfl rfl (by simp only [Nat.zero_add] <;> rfl)) rfl rfl rfl ?_
      refine WL_is (X_load1 rfl rfl (by exact idx1) rfl rfl) rfl rfl rfl ?_
      refine WL_is (X_eql_t rfl rfl rfl (by omega)) rfl rfl rfl ?_
      refine WL_is (X_pick_f rfl rfl rfl) rfl rfl rfl ?_
      refine WL_is (X_move rfl rfl) rfl rfl rfl ?_
      refine WL_off rfl rfl rfl ?_
      refine WL_off rfl rfl rfl ?_
      refine WL_off rfl rfl rfl ?_
      refine WL_off rfl rfl rfl ?_
      refine WL_off rfl rfl rfl ?_
      refine WL_is (X_pick_t rfl rfl rfl) rfl rfl rfl ?_
      (repeat (first | refine WL_nil ?_ | refine Then_normal ?_ | refine W_seq ?_ | refine W_true rfl ?_))
      skip
      refine W_region rfl ?_
      refine WL_is (X_callv rfl rfl rfl Try.func9 rfl (by assumption)) rfl rfl rfl ?_
      refine WL_is (X_assign rfl rfl) rfl rfl rfl ?_
      (repeat (first | refine WL_nil ?_ | refine Then_normal ?_ | refine W_ret ?_ | refine Then_ret ?_))
      refine Body_end rfl rfl rfl (SubR.none _) ?_
      rfl
    · by_cases u1 : c.uid = a.uid
      · refine WL_is (X_move rfl rfl) rfl rfl rfl ?_
        refine WL_is (X_fieldAddr rfl rfl rfl (by simp only [Nat.zero_add] <;> rfl)) rfl rfl rfl ?_
        refine WL_is (X_load1 rfl rfl (by exact idx1) rfl rfl) rfl rfl rfl ?_
        refine WL_is (X_eql_f rfl rfl rfl (by omega)) rfl rfl rfl ?_
        refine WL_is (X_pick_f rfl rfl rfl) rfl rfl rfl ?_
        refine WL_is (X_move rfl rfl) rfl rfl rfl ?_
        refine WL_is (X_fieldAddr rfl rfl rfl (by simp only [Nat.zero_add] <;> rfl)) rfl rfl rfl ?_
        refine WL_is (X_load1 rfl rfl (by exact idx1) rfl rfl) rfl rfl rfl ?_
        refine WL_is (X_fieldAddr rfl rfl rfl (by simp only [Nat.zero_add] <;> rfl)) rfl rfl rfl ?_
        refine WL_is (X_load1 rfl rfl (by exact idx0) rfl rfl) rfl rfl rfl ?_
        refine WL_is (X_eql_t rfl rfl rfl (by omega)) rfl rfl rfl ?_
        refine WL_is (X_pick_f rfl rfl rfl) rfl rfl rfl ?_
        (repeat (first | refine WL_nil ?_ | refine Then_normal ?_ | refine W_seq ?_ | refine W_true rfl ?_))
        skip
        refine W_region rfl ?_
        refine WL_is (X_callv rfl rfl rfl Try.func9 rfl (by assumption)) rfl rfl rfl ?_
        refine WL_is (X_assign rfl rfl) rfl rfl rfl ?_
        (repeat (first | refine WL_nil ?_ | refine Then_normal ?_ | refine W_ret ?_ | refine Then_ret ?_))
        refine Body_end rfl rfl rfl (SubR.none _) ?_
        rfl
      · have cls := fun h => class_may (c := c) (a := a) (dir := dir) hok hw.1 u0 u1 h
        refine WL_is (X_move rfl rfl) rfl rfl rfl ?_
        refine WL_is (X_fieldAddr rfl rfl rfl (by simp only [Nat.zero_add] <;> rfl)) rfl rfl rfl ?_
        refine WL_is (X_load1 rfl rfl (by exact idx1) rfl rfl) rfl rfl rfl ?_
        refine WL_is (X_eql_f rfl rfl rfl (by omega)) rfl rfl rfl ?_
        refine WL_is (X_pick_f rfl rfl rfl) rfl rfl rfl ?_
        refine WL_is (X_move rfl rfl) rfl rfl rfl ?_
        refine WL_is (X_fieldAddr rfl rfl rfl (by simp only [Nat.zero_add] <;> rfl)) rfl rfl rfl ?_
        refine WL_is (X_load1 rfl rfl (by exact idx1) rfl rfl) rfl rfl rfl ?_
        refine WL_is (X_fieldAddr rfl rfl rfl (by simp only [Nat.zero_add] <;> rfl)) rfl rfl rfl ?_
        refine WL_is (X_load1 rfl rfl (by exact idx0) rfl rfl) rfl rfl rfl ?_
        refine WL_is (X_eql_f rfl rfl rfl (by omega)) rfl rfl rfl ?_
        refine WL_is (X_pick_f rfl rfl rfl) rfl rfl rfl ?_
        (repeat (first | refine WL_nil ?_ | refine Then_normal ?_ | refine W_seq ?_ | refine W_skip ?_ | refine W_false rfl ?_))
        skip
        refine W_region rfl ?_
        refine WL_is (X_loadA rfl rfl (by exact idx1) rfl rfl rfl) rfl rfl rfl ?_
        refine WL_is (X_fieldAddr rfl rfl rfl (by simp only [Nat.zero_add] <;> rfl)) rfl rfl rfl ?_
        refine WL_is (X_load1 rfl rfl (by exact idx0) rfl rfl) rfl rfl rfl ?_
        refine WL_is (X_callv rfl rfl rfl Try.func11 rfl (by assumption)) rfl rfl rfl ?_
        refine WL_is (X_assign rfl rfl) rfl rfl rfl ?_
        (repeat (first | refine WL_nil ?_ | refine Then_normal ?_ | refine W_seq ?_))
        skip
        refine W_region rfl ?_
        refine WL_is (X_assign rfl rfl) rfl rfl rfl ?_
        (repeat (first | refine WL_nil ?_ | refine Then_normal ?_ | refine W_block ?_))
        refine W_loop (X := BX) (L := fun X => ⟨[(10, .int .i64 (X.k : Int)), (9, .bool X.b), (5, .pointer (some ⟨ab, 0, none⟩)), (4, .pointer (some ⟨cb, 0, none⟩)), (3, .int .u8 want), (2, .bool dir)], [], [blk ab (attrC a (.slice ua a.acc.us.length uc) (.slice ga a.acc.gs.length gc) (.slice va a.df.us.length vc) (.slice wa a.df.gs.length wc) (.slice ya a.xs.length yc)) 31, blk cb (credC c (.slice xa c.gs.length xc)) 25], H1⟩)
          (p := fun X => X.k ≤ a.acc.us.length ∧ X.b = (c.inB a.gid || (a.acc.us.take X.k).any fun x => decide (x.1 = c.uid))) (μ := fun X => a.acc.us.length - X.k) ⟨0, c.inB a.gid⟩ ⟨(by repeat (first | exact SubE_nil | refine SubE_cons rfl ?_)), rfl, SubR.refl _, rfl⟩ ⟨Nat.zero_le _, by simp⟩ ?_
        rintro ⟨k, b⟩ ⟨hk, hb1⟩
        dsimp only at hk hb1 ⊢
        by_cases hlt : k < a.acc.us.length
        · have hstep := any_take (p := fun x : Int × Int => decide (x.1 = c.uid)) hlt
          cases b with
          | true =>
            (repeat (first | refine W_seq ?_))
            refine W_region rfl ?_
            refine WL_is (X_move rfl rfl) rfl rfl rfl ?_
            refine WL_is (X_fieldAddr rfl rfl rfl (by simp only [Nat.zero_add] <;> rfl)) rfl rfl rfl ?_
            refine WL_is (X_fieldAddr rfl rfl rfl (by simp only [Nat.reduceAdd] <;> rfl)) rfl rfl rfl ?_
            refine WL_is (X_load1 rfl rfl (by exact idx0) rfl rfl) rfl rfl rfl ?_
            refine WL_is (X_len_sl rfl rfl rfl (by assumption)) rfl rfl rfl ?_
            refine WL_is (X_lss_t rfl rfl rfl (by omega)) rfl rfl rfl ?_
            (repeat (first | refine WL_nil ?_ | refine Then_normal ?_ | refine W_seq ?_ | refine W_skip ?_ | refine W_block ?_ | refine W_true rfl ?_))
            skip
            refine W_draw0 11 rfl rfl rfl rfl ?_
            refine RG_val rfl rfl (fun _ => rfl) (fun _ => X_move rfl rfl) ?_
            refine RG_val rfl rfl (fun _ => rfl) (fun _ => X_move rfl rfl) ?_
            refine RG_off rfl rfl (fun _ => rfl) ?_
            refine RG_off rfl rfl (fun _ => rfl) ?_
            refine RG_off rfl rfl (fun _ => rfl) ?_
            refine RG_off rfl rfl (fun _ => rfl) ?_
            refine RG_off rfl rfl (fun _ => rfl) ?_
            refine RG_off rfl rfl (fun _ => rfl) ?_
            refine RG_off rfl rfl (fun _ => rfl) ?_
            refine RG_off rfl rfl (fun _ => rfl) ?_
            refine RG_off rfl rfl (fun _ => rfl) ?_
            refine RG_nil ?_
            refine RG_endv rfl (fun vs => by simp only [endE, List.cons_append, List.nil_append] <;> rfl) (fun vs => rfl) ?_
            refine WL_off rfl rfl rfl ?_
            refine WL_is (X_pick_t rfl rfl rfl) rfl rfl rfl ?_
            refine WL_is (X_assign rfl rfl) rfl rfl rfl ?_
            (repeat (first | refine WL_nil ?_ | refine Then_normal ?_ | refine inBlk_normal ?_))
            skip
            refine W_region rfl ?_
            refine WL_is (X_move rfl rfl) rfl rfl rfl ?_
            refine WL_is (X_addW rfl rfl rfl (by exact wrap_i64_in (by omega) (by omega))) rfl rfl rfl ?_
            refine WL_is (X_assign rfl rfl) rfl rfl rfl ?_
            (repeat (first | refine WL_nil ?_ | refine Then_normal ?_))
            exact ⟨⟨k + 1, true⟩, ⟨(by repeat (first | exact SubE_nil | refine SubE_cons rfl ?_)), rfl, SubR.refl _, rfl⟩, ⟨hlt, by dsimp only; rw [hstep, ← Bool.or_assoc, ← hb1]; rfl⟩, by dsimp only; omega⟩
          | false =>
            by_cases he : a.acc.us[k].1 = c.uid
            · (repeat (first | refine W_seq ?_))
              refine W_region rfl ?_
              refine WL_is (X_move rfl rfl) rfl rfl rfl ?_
              refine WL_is (X_fieldAddr rfl rfl rfl (by simp only [Nat.zero_add] <;> rfl)) rfl rfl rfl ?_
              refine WL_is (X_fieldAddr rfl rfl rfl (by simp only [Nat.reduceAdd] <;> rfl)) rfl rfl rfl ?_
              refine WL_is (X_load1 rfl rfl (by exact idx0) rfl rfl) rfl rfl rfl ?_
              refine WL_is (X_len_sl rfl rfl rfl (by assumption)) rfl rfl rfl ?_
              refine WL_is (X_lss_t rfl rfl rfl (by omega)) rfl rfl rfl ?_
              (repeat (first | refine WL_nil ?_ | refine Then_normal ?_ | refine W_seq ?_ | refine W_skip ?_ | refine W_block ?_ | refine W_true rfl ?_))
              skip
              refine W_draw0 11 rfl rfl rfl rfl ?_
              refine RG_val rfl rfl (fun _ => rfl) (fun _ => X_move rfl rfl) ?_
              refine RG_val rfl rfl (fun _ => rfl) (fun _ => X_move rfl rfl) ?_
              refine RG_val rfl rfl (fun _ => rfl) (fun _ => X_fieldAddr rfl rfl rfl (by simp only [Nat.zero_add] <;> rfl)) ?_
              refine RG_val rfl rfl (fun _ => rfl) (fun _ => X_fieldAddr rfl rfl rfl (by simp only [Nat.reduceAdd] <;> rfl)) ?_
              refine RG_val rfl rfl (fun _ => rfl) (fun _ => X_load1 rfl rfl (by exact idx0) rfl rfl) ?_
              refine RG_val rfl rfl (fun _ => rfl) (fun _ => X_move rfl rfl) ?_
              (refine RG_index_slN rfl rfl rfl (fun _ => rfl) (fun _ => rfl) (by assumption) (by omega) rfl rfl (fun _ => rfl) ?_; intro p_ hp_)
              (refine RG_fieldAddr_at rfl (fun _ => rfl) (by assumption) rfl rfl rfl (fun _ => rfl) ?_; intro p_ hp_)
              refine RG_val rfl rfl (fun _ => rfl) (fun _ => X_load1_at rfl rfl (by assumption) rfl rfl) ?_
              refine RG_val rfl rfl (fun _ => rfl) (fun _ => X_fieldAddr rfl rfl rfl (by simp only [Nat.zero_add] <;> rfl)) ?_
              refine RG_val rfl rfl (fun _ => rfl) (fun _ => X_load1 rfl rfl (by exact idx1) rfl rfl) ?_
              refine RG_nil ?_
              refine RG_endv rfl (fun vs => by simp only [endE, List.cons_append, List.nil_append] <;> rfl) (fun vs => rfl) ?_
              refine WL_is (X_eql_t rfl rfl rfl (by omega)) rfl rfl rfl ?_
              refine WL_is (X_pick_f rfl rfl rfl) rfl rfl rfl ?_
              refine WL_is (X_assign rfl rfl) rfl rfl rfl ?_
              (repeat (first | refine WL_nil ?_ | refine Then_normal ?_ | refine inBlk_normal ?_))
              skip
              refine W_region rfl ?_
              refine WL_is (X_move rfl rfl) rfl rfl rfl ?_
              refine WL_is (X_addW rfl rfl rfl (by exact wrap_i64_in (by omega) (by omega))) rfl rfl rfl ?_
              refine WL_is (X_assign rfl rfl) rfl rfl rfl ?_
              (repeat (first | refine WL_nil ?_ | refine Then_normal ?_))
              exact ⟨⟨k + 1, true⟩, ⟨(by repeat (first | exact SubE_nil | refine SubE_cons rfl ?_)), rfl, SubR.refl _, rfl⟩, ⟨hlt, by dsimp only; rw [hstep, ← Bool.or_assoc, ← hb1, decide_eq_true he]; rfl⟩, by dsimp only; omega⟩
            · (repeat (first | refine W_seq ?_))
              refine W_region rfl ?_
              refine WL_is (X_move rfl rfl) rfl rfl rfl ?_
              refine WL_is (X_fieldAddr rfl rfl rfl (by simp only [Nat.zero_add] <;> rfl)) rfl rfl rfl ?_
              refine WL_is (X_fieldAddr rfl rfl rfl (by simp only [Nat.reduceAdd] <;> rfl)) rfl rfl rfl ?_
              refine WL_is (X_load1 rfl rfl (by exact idx0) rfl rfl) rfl rfl rfl ?_
              refine WL_is (X_len_sl rfl rfl rfl (by assumption)) rfl rfl rfl ?_
              refine WL_is (X_lss_t rfl rfl rfl (by omega)) rfl rfl rfl ?_
              (repeat (first | refine WL_nil ?_ | refine Then_normal ?_ | refine W_seq ?_ | refine W_skip ?_ | refine W_block ?_ | refine W_true rfl ?_))
              skip
              refine W_draw0 11 rfl rfl rfl rfl ?_
              refine RG_val rfl rfl (fun _ => rfl) (fun _ => X_move rfl rfl) ?_
              refine RG_val rfl rfl (fun _ => rfl) (fun _ => X_move rfl rfl) ?_
              refine RG_val rfl rfl (fun _ => rfl) (fun _ => X_fieldAddr rfl rfl rfl (by simp only [Nat.zero_add] <;> rfl)) ?_
              refine RG_val rfl rfl (fun _ => rfl) (fun _ => X_fieldAddr rfl rfl rfl (by simp only [Nat.reduceAdd] <;> rfl)) ?_
              refine RG_val rfl rfl (fun _ => rfl) (fun _ => X_load1 rfl rfl (by exact idx0) rfl rfl) ?_
              refine RG_val rfl rfl (fun _ => rfl) (fun _ => X_move rfl rfl) ?_
              (refine RG_index_slN rfl rfl rfl (fun _ => rfl) (fun _ => rfl) (by assumption) (by omega) rfl rfl (fun _ => rfl) ?_; intro p_ hp_)
              (refine RG_fieldAddr_at rfl (fun _ => rfl) (by assumption) rfl rfl rfl (fun _ => rfl) ?_; intro p_ hp_)
              refine RG_val rfl rfl (fun _ => rfl) (fun _ => X_load1_at rfl rfl (by assumption) rfl rfl) ?_
              refine RG_val rfl rfl (fun _ => rfl) (fun _ => X_fieldAddr rfl rfl rfl (by simp only [Nat.zero_add] <;> rfl)) ?_
              refine RG_val rfl rfl (fun _ => rfl) (fun _ => X_load1 rfl rfl (by exact idx1) rfl rfl) ?_
              refine RG_nil ?_
              refine RG_endv rfl (fun vs => by simp only [endE, List.cons_append, List.nil_append] <;> rfl) (fun vs => rfl) ?_
              refine WL_is (X_eql_f rfl rfl rfl (by omega)) rfl rfl rfl ?_
              refine WL_is (X_pick_f rfl rfl rfl) rfl rfl rfl ?_
              refine WL_is (X_assign rfl rfl) rfl rfl rfl ?_
              (repeat (first | refine WL_nil ?_ | refine Then_normal ?_ | refine inBlk_normal ?_))
              skip
              refine W_region rfl ?_
              refine WL_is (X_move rfl rfl) rfl rfl rfl ?_
              refine WL_is (X_addW rfl rfl rfl (by exact wrap_i64_in (by omega) (by omega))) rfl rfl rfl ?_
              refine WL_is (X_assign rfl rfl) rfl rfl rfl ?_
              (repeat (first | refine WL_nil ?_ | refine Then_normal ?_))
              exact ⟨⟨k + 1, false⟩, ⟨(by repeat (first | exact SubE_nil | refine SubE_cons rfl ?_)), rfl, SubR.refl _, rfl⟩, ⟨hlt, by dsimp only; rw [hstep, ← Bool.or_assoc, ← hb1, decide_eq_false he]; rfl⟩, by dsimp only; omega⟩
        · rw [List.take_of_length_le (by omega)] at hb1
          generalize hb0 : b = b0 at *
          (repeat (first | refine W_seq ?_))
          refine W_region rfl ?_
          refine WL_is (X_move rfl rfl) rfl rfl rfl ?_
          refine WL_is (X_fieldAddr rfl rfl rfl (by simp only [Nat.zero_add] <;> rfl)) rfl rfl rfl ?_
          refine WL_is (X_fieldAddr rfl rfl rfl (by simp only [Nat.reduceAdd] <;> rfl)) rfl rfl rfl ?_
          refine WL_is (X_load1 rfl rfl (by exact idx0) rfl rfl) rfl rfl rfl ?_
          refine WL_is (X_len_sl rfl rfl rfl (by assumption)) rfl rfl rfl ?_
          refine WL_is (X_lss_f rfl rfl rfl (by omega)) rfl rfl rfl ?_
          (repeat (first | refine WL_nil ?_ | refine Then_normal ?_ | refine W_seq ?_ | refine W_exit ?_ | refine Then_exit ?_ | refine inBlk_here ?_ | refine W_false rfl ?_))
          skip
          refine W_region rfl ?_
          refine WL_is (X_assign rfl rfl) rfl rfl rfl ?_
          (repeat (first | refine WL_nil ?_ | refine Then_normal ?_ | refine W_block ?_))
          refine W_loop (X := BX) (L := fun X => ⟨[(11, .int .i64 (X.k : Int)), (9, .bool X.b), (5, .pointer (some ⟨ab, 0, none⟩)), (4, .pointer (some ⟨cb, 0, none⟩)), (3, .int .u8 want), (2, .bool dir)], [], [blk ab (attrC a (.slice ua a.acc.us.length uc) (.slice ga a.acc.gs.length gc) (.slice va a.df.us.length vc) (.slice wa a.df.gs.length wc) (.slice ya a.xs.length yc)) 31, blk cb (credC c (.slice xa c.gs.length xc)) 25], H1⟩)
            (p := fun X => X.k ≤ a.acc.gs.length ∧ X.b = (b0 || (a.acc.gs.take X.k).any fun x => c.inB x.1)) (μ := fun X => a.acc.gs.length - X.k) ⟨0, b0⟩ ⟨(by repeat (first | exact SubE_nil | refine SubE_cons rfl ?_)), rfl, SubR.refl _, rfl⟩ ⟨Nat.zero_le _, by simp⟩ ?_
          rintro ⟨k, b⟩ ⟨hk, hb2⟩
          dsimp only at hk hb2 ⊢
          by_cases hlt : k < a.acc.gs.length
          · have hstep := any_take (p := fun x : Int × Int => c.inB x.1) hlt
            have k3 := kin a.acc.gs[k].1
            cases b with
            | true =>
              (repeat (first | refine W_seq ?_))
              refine W_region rfl ?_
              refine WL_is (X_move rfl rfl) rfl rfl rfl ?_
              refine WL_is (X_fieldAddr rfl rfl rfl (by simp only [Nat.zero_add] <;> rfl)) rfl rfl rfl ?_
              refine WL_is (X_fieldAddr rfl rfl rfl (by simp only [Nat.reduceAdd] <;> rfl)) rfl rfl rfl ?_
              refine WL_is (X_load1 rfl rfl (by exact idx0) rfl rfl) rfl rfl rfl ?_
              refine WL_is (X_len_sl rfl rfl rfl (by assumption)) rfl rfl rfl ?_
              refine WL_is (X_lss_t rfl rfl rfl (by omega)) rfl rfl rfl ?_
              (repeat (first | refine WL_nil ?_ | refine Then_normal ?_ | refine W_seq ?_ | refine W_skip ?_ | refine W_block ?_ | refine W_true rfl ?_))
              skip
              refine W_draw0 10 rfl rfl rfl rfl ?_
              refine RG_val rfl rfl (fun _ => rfl) (fun _ => X_move rfl rfl) ?_
              refine RG_val rfl rfl (fun _ => rfl) (fun _ => X_move rfl rfl) ?_
              refine RG_off rfl rfl (fun _ => rfl) ?_
              refine RG_off rfl rfl (fun _ => rfl) ?_
              refine RG_off rfl rfl (fun _ => rfl) ?_
              refine RG_off rfl rfl (fun _ => rfl) ?_
              refine RG_off rfl rfl (fun _ => rfl) ?_
              refine RG_off rfl rfl (fun _ => rfl) ?_
              refine RG_off rfl rfl (fun _ => rfl) ?_
              refine RG_off rfl rfl (fun _ => rfl) ?_
              refine RG_nil ?_
              refine RG_endv rfl (fun vs => by simp only [endE, List.cons_append, List.nil_append] <;> rfl) (fun vs => rfl) ?_
              refine WL_off rfl rfl rfl ?_
              refine WL_is (X_pick_t rfl rfl rfl) rfl rfl rfl ?_
              refine WL_is (X_assign rfl rfl) rfl rfl rfl ?_
              (repeat (first | refine WL_nil ?_ | refine Then_normal ?_ | refine inBlk_normal ?_))
              skip
              refine W_region rfl ?_
              refine WL_is (X_move rfl rfl) rfl rfl rfl ?_
              refine WL_is (X_addW rfl rfl rfl (by exact wrap_i64_in (by omega) (by omega))) rfl rfl rfl ?_
              refine WL_is (X_assign rfl rfl) rfl rfl rfl ?_
              (repeat (first | refine WL_nil ?_ | refine Then_normal ?_))
              exact ⟨⟨k + 1, true⟩, ⟨(by repeat (first | exact SubE_nil | refine SubE_cons rfl ?_)), rfl, SubR.refl _, rfl⟩, ⟨hlt, by dsimp only; rw [hstep, ← Bool.or_assoc, ← hb2]; rfl⟩, by dsimp only; omega⟩
            | false =>
              (repeat (first | refine W_seq ?_))
              refine W_region rfl ?_
              refine WL_is (X_move rfl rfl) rfl rfl rfl ?_
              refine WL_is (X_fieldAddr rfl rfl rfl (by simp only [Nat.zero_add] <;> rfl)) rfl rfl rfl ?_
              refine WL_is (X_fieldAddr rfl rfl rfl (by simp only [Nat.reduceAdd] <;> rfl)) rfl rfl rfl ?_
              refine WL_is (X_load1 rfl rfl (by exact idx0) rfl rfl) rfl rfl rfl ?_
              refine WL_is (X_len_sl rfl rfl rfl (by assumption)) rfl rfl rfl ?_
              refine WL_is (X_lss_t rfl rfl rfl (by omega)) rfl rfl rfl ?_
              (repeat (first | refine WL_nil ?_ | refine Then_normal ?_ | refine W_seq ?_ | refine W_skip ?_ | refine W_block ?_ | refine W_true rfl ?_))
              skip
              refine W_draw0 10 rfl rfl rfl rfl ?_
              refine RG_val rfl rfl (fun _ => rfl) (fun _ => X_move rfl rfl) ?_
              refine RG_val rfl rfl (fun _ => rfl) (fun _ => X_move rfl rfl) ?_
              refine RG_val rfl rfl (fun _ => rfl) (fun _ => X_loadA rfl rfl (by exact idx1) rfl rfl rfl) ?_
              refine RG_val rfl rfl (fun _ => rfl) (fun _ => X_fieldAddr rfl rfl rfl (by simp only [Nat.zero_add] <;> rfl)) ?_
              refine RG_val rfl rfl (fun _ => rfl) (fun _ => X_fieldAddr rfl rfl rfl (by simp only [Nat.reduceAdd] <;> rfl)) ?_
              refine RG_val rfl rfl (fun _ => rfl) (fun _ => X_load1 rfl rfl (by exact idx0) rfl rfl) ?_
              refine RG_val rfl rfl (fun _ => rfl) (fun _ => X_move rfl rfl) ?_
              (refine RG_index_slN rfl rfl rfl (fun _ => rfl) (fun _ => rfl) (by assumption) (by omega) rfl rfl (fun _ => rfl) ?_; intro p_ hp_)
              (refine RG_fieldAddr_at rfl (fun _ => rfl) (by assumption) rfl rfl rfl (fun _ => rfl) ?_; intro p_ hp_)
              refine RG_val rfl rfl (fun _ => rfl) (fun _ => X_load1_at rfl rfl (by assumption) rfl rfl) ?_
              refine RG_nil ?_
              refine RG_endv rfl (fun vs => by simp only [endE, List.cons_append, List.nil_append] <;> rfl) (fun vs => rfl) ?_
              refine WL_is (X_callv rfl rfl rfl Try.func11 rfl (by assumption)) rfl rfl rfl ?_
              refine WL_is (X_pick_f rfl rfl rfl) rfl rfl rfl ?_
              refine WL_is (X_assign rfl rfl) rfl rfl rfl ?_
              (repeat (first | refine WL_nil ?_ | refine Then_normal ?_ | refine inBlk_normal ?_))
              skip
              refine W_region rfl ?_
              refine WL_is (X_move rfl rfl) rfl rfl rfl ?_
              refine WL_is (X_addW rfl rfl rfl (by exact wrap_i64_in (by omega) (by omega))) rfl rfl rfl ?_
              refine WL_is (X_assign rfl rfl) rfl rfl rfl ?_
              (repeat (first | refine WL_nil ?_ | refine Then_normal ?_))
              exact ⟨⟨k + 1, c.inB a.acc.gs[k].1⟩, ⟨(by repeat (first | exact SubE_nil | refine SubE_cons rfl ?_)), rfl, SubR.refl _, rfl⟩, ⟨hlt, by dsimp only; rw [hstep, ← Bool.or_assoc, ← hb2]; rfl⟩, by dsimp only; omega⟩
          · rw [List.take_of_length_le (by omega), hb1] at hb2
            have hn : namedP c a = b := hb2.symm
            rw [hn] at cls
            have hw0 := hw
            unfold u8 at hw0
            unfold clsP at cls
            unfold attrC
            cases hm : a.acc.hm with
            | true =>
              rw [hm] at cls k2
              cases hp : mayP c a dir want with
              | true =>
                rw [hp] at k2
                have f := cls hp
                unfold hasP at f
                cases b with
                | true =>
                  have f := of_decide_eq_true f
                  simp only [if_true] at f
                  (repeat (first | refine W_seq ?_))
                  refine W_region rfl ?_
                  refine WL_is (X_move rfl rfl) rfl rfl rfl ?_
                  refine WL_is (X_fieldAddr rfl rfl rfl (by simp only [Nat.zero_add] <;> rfl)) rfl rfl rfl ?_
                  refine WL_is (X_fieldAddr rfl rfl rfl (by simp only [Nat.reduceAdd] <;> rfl)) rfl rfl rfl ?_
                  refine WL_is (X_load1 rfl rfl (by exact idx0) rfl rfl) rfl rfl rfl ?_
                  refine WL_is (X_len_sl rfl rfl rfl (by assumption)) rfl rfl rfl ?_
                  refine WL_is (X_lss_f rfl rfl rfl (by omega)) rfl rfl rfl ?_
                  (repeat (first | refine WL_nil ?_ | refine Then_normal ?_ | refine W_seq ?_ | refine W_exit ?_ | refine Then_exit ?_ | refine inBlk_here ?_ | refine W_false rfl ?_))
                  skip
                  refine W_region rfl ?_
                  refine WL_is (X_fieldAddr rfl rfl rfl (by simp only [Nat.zero_add] <;> rfl)) rfl rfl rfl ?_
                  refine WL_is (X_fieldAddr rfl rfl rfl (by simp only [Nat.reduceAdd] <;> rfl)) rfl rfl rfl ?_
                  refine WL_is (X_load1 rfl rfl (by exact idx0) rfl rfl) rfl rfl rfl ?_
                  refine WL_is (X_assign rfl rfl) rfl rfl rfl ?_
                  (repeat (first | refine WL_nil ?_ | refine Then_normal ?_ | refine W_seq ?_))
                  skip
                  refine W_region rfl ?_
                  refine WL_is (X_fieldAddr rfl rfl rfl (by simp only [Nat.zero_add] <;> rfl)) rfl rfl rfl ?_
                  refine WL_is (X_fieldAddr rfl rfl rfl (by simp only [Nat.reduceAdd] <;> rfl)) rfl rfl rfl ?_
                  refine WL_is (X_load1 rfl rfl (by exact idx0) rfl rfl) rfl rfl rfl ?_
                  (repeat (first | refine WL_nil ?_ | refine Then_normal ?_ | refine W_true rfl ?_))
                  skip
                  refine W_region rfl ?_
                  refine WL_is (X_fieldAddr rfl rfl rfl (by simp only [Nat.zero_add] <;> rfl)) rfl rfl rfl ?_
                  refine WL_is (X_fieldAddr rfl rfl rfl (by simp only [Nat.reduceAdd] <;> rfl)) rfl rfl rfl ?_
                  refine WL_is (X_load1 rfl rfl (by exact idx0) rfl rfl) rfl rfl rfl ?_
                  refine WL_is (X_assign rfl rfl) rfl rfl rfl ?_
                  (repeat (first | refine WL_nil ?_ | refine Then_normal ?_ | refine W_seq ?_))
                  skip
                  refine W_region rfl ?_
                  refine WL_is (X_loadA rfl rfl (by exact idx1) rfl rfl rfl) rfl rfl rfl ?_
                  refine WL_is (X_loadA rfl rfl (by exact idx0) rfl rfl rfl) rfl rfl rfl ?_
                  refine WL_is (X_move rfl rfl) rfl rfl rfl ?_
                  refine WL_is (X_move rfl rfl) rfl rfl rfl ?_
                  refine WL_is (X_callv rfl rfl rfl Try.func13 rfl (by assumption)) rfl rfl rfl ?_
                  refine WL_is (X_assign rfl rfl) rfl rfl rfl ?_
                  (repeat (first | refine WL_nil ?_ | refine Then_normal ?_ | refine W_seq ?_))
                  skip
                  refine W_region rfl ?_
                  refine WL_is (X_move rfl rfl) rfl rfl rfl ?_
                  (repeat (first | refine WL_nil ?_ | refine Then_normal ?_ | refine W_seq ?_ | refine W_true rfl ?_))
                  skip
                  refine W_region rfl ?_
                  refine WL_is (X_move rfl rfl) rfl rfl rfl ?_
                  refine WL_is (X_not rfl rfl) rfl rfl rfl ?_
                  refine WL_is (X_move rfl rfl) rfl rfl rfl ?_
                  refine WL_is (X_move rfl rfl) rfl rfl rfl ?_
                  refine WL_is (X_move rfl rfl) rfl rfl rfl ?_
                  refine WL_is (X_and rfl rfl rfl) rfl rfl rfl ?_
                  refine WL_is (X_move rfl rfl) rfl rfl rfl ?_
                  refine WL_is (X_eql_t rfl rfl rfl (by omega)) rfl rfl rfl ?_
                  refine WL_is (X_pick_f rfl rfl rfl) rfl rfl rfl ?_
                  refine WL_is (X_move rfl rfl) rfl rfl rfl ?_
                  refine WL_is (X_callv rfl rfl rfl Try.func9 rfl (by assumption)) rfl rfl rfl ?_
                  refine WL_is (X_pick_t rfl rfl rfl) rfl rfl rfl ?_
                  refine WL_is (X_assign rfl rfl) rfl rfl rfl ?_
                  (repeat (first | refine WL_nil ?_ | refine Then_normal ?_ | refine W_ret ?_ | refine Then_ret ?_))
                  refine Body_end rfl rfl rfl (SubR.none _) ?_
                  rfl
                | false =>
                  have f := of_decide_eq_true f
                  simp only [Bool.false_eq_true, if_false] at f
                  (repeat (first | refine W_seq ?_))
                  refine W_region rfl ?_
                  refine WL_is (X_move rfl rfl) rfl rfl rfl ?_
                  refine WL_is (X_fieldAddr rfl rfl rfl (by simp only [Nat.zero_add] <;> rfl)) rfl rfl rfl ?_
                  refine WL_is (X_fieldAddr rfl rfl rfl (by simp only [Nat.reduceAdd] <;> rfl)) rfl rfl rfl ?_
                  refine WL_is (X_load1 rfl rfl (by exact idx0) rfl rfl) rfl rfl rfl ?_
                  refine WL_is (X_len_sl rfl rfl rfl (by assumption)) rfl rfl rfl ?_
                  refine WL_is (X_lss_f rfl rfl rfl (by omega)) rfl rfl rfl ?_
                  (repeat (first | refine WL_nil ?_ | refine Then_normal ?_ | refine W_seq ?_ | refine W_exit ?_ | refine Then_exit ?_ | refine inBlk_here ?_ | refine W_false rfl ?_))
                  skip
                  refine W_region rfl ?_
                  refine WL_is (X_fieldAddr rfl rfl rfl (by simp only [Nat.zero_add] <;> rfl)) rfl rfl rfl ?_
                  refine WL_is (X_fieldAddr rfl rfl rfl (by simp only [Nat.reduceAdd] <;> rfl)) rfl rfl rfl ?_
                  refine WL_is (X_load1 rfl rfl (by exact idx0) rfl rfl) rfl rfl rfl ?_
                  refine WL_is (X_assign rfl rfl) rfl rfl rfl ?_
                  (repeat (first | refine WL_nil ?_ | refine Then_normal ?_ | refine W_seq ?_))
                  skip
                  refine W_region rfl ?_
                  refine WL_is (X_fieldAddr rfl rfl rfl (by simp only [Nat.zero_add] <;> rfl)) rfl rfl rfl ?_
                  refine WL_is (X_fieldAddr rfl rfl rfl (by simp only [Nat.reduceAdd] <;> rfl)) rfl rfl rfl ?_
                  refine WL_is (X_load1 rfl rfl (by exact idx0) rfl rfl) rfl rfl rfl ?_
                  (repeat (first | refine WL_nil ?_ | refine Then_normal ?_ | refine W_true rfl ?_))
                  skip
                  refine W_region rfl ?_
                  refine WL_is (X_fieldAddr rfl rfl rfl (by simp only [Nat.zero_add] <;> rfl)) rfl rfl rfl ?_
                  refine WL_is (X_fieldAddr rfl rfl rfl (by simp only [Nat.reduceAdd] <;> rfl)) rfl rfl rfl ?_
                  refine WL_is (X_load1 rfl rfl (by exact idx0) rfl rfl) rfl rfl rfl ?_
                  refine WL_is (X_assign rfl rfl) rfl rfl rfl ?_
                  (repeat (first | refine WL_nil ?_ | refine Then_normal ?_ | refine W_seq ?_))
                  skip
                  refine W_region rfl ?_
                  refine WL_is (X_loadA rfl rfl (by exact idx1) rfl rfl rfl) rfl rfl rfl ?_
                  refine WL_is (X_loadA rfl rfl (by exact idx0) rfl rfl rfl) rfl rfl rfl ?_
                  refine WL_is (X_move rfl rfl) rfl rfl rfl ?_
                  refine WL_is (X_move rfl rfl) rfl rfl rfl ?_
                  refine WL_is (X_callv rfl rfl rfl Try.func13 rfl (by assumption)) rfl rfl rfl ?_
                  refine WL_is (X_assign rfl rfl) rfl rfl rfl ?_
                  (repeat (first | refine WL_nil ?_ | refine Then_normal ?_ | refine W_seq ?_))
                  skip
                  refine W_region rfl ?_
                  refine WL_is (X_move rfl rfl) rfl rfl rfl ?_
                  (repeat (first | refine WL_nil ?_ | refine Then_normal ?_ | refine W_seq ?_ | refine W_skip ?_ | refine W_false rfl ?_))
                  skip
                  refine W_region rfl ?_
                  refine WL_is (X_move rfl rfl) rfl rfl rfl ?_
                  refine WL_is (X_not rfl rfl) rfl rfl rfl ?_
                  refine WL_is (X_move rfl rfl) rfl rfl rfl ?_
                  refine WL_is (X_fieldAddr rfl rfl rfl (by simp only [Nat.zero_add] <;> rfl)) rfl rfl rfl ?_
                  refine WL_is (X_fieldAddr rfl rfl rfl (by simp only [Nat.reduceAdd] <;> rfl)) rfl rfl rfl ?_
                  refine WL_is (X_load1 rfl rfl (by exact idx0) rfl rfl) rfl rfl rfl ?_
                  refine WL_is (X_move rfl rfl) rfl rfl rfl ?_
                  refine WL_is (X_and rfl rfl rfl) rfl rfl rfl ?_
                  refine WL_is (X_move rfl rfl) rfl rfl rfl ?_
                  refine WL_is (X_eql_t rfl rfl rfl (by omega)) rfl rfl rfl ?_
                  refine WL_is (X_pick_f rfl rfl rfl) rfl rfl rfl ?_
                  refine WL_is (X_move rfl rfl) rfl rfl rfl ?_
                  refine WL_is (X_callv rfl rfl rfl Try.func9 rfl (by assumption)) rfl rfl rfl ?_
                  refine WL_is (X_pick_t rfl rfl rfl) rfl rfl rfl ?_
                  refine WL_is (X_assign rfl rfl) rfl rfl rfl ?_
                  (repeat (first | refine WL_nil ?_ | refine Then_normal ?_ | refine W_ret ?_))
                  refine Body_end rfl rfl rfl (SubR.none _) ?_
                  rfl
              | false =>
                rw [hp] at k2
                cases b with
                | true =>
                  (repeat (first | refine W_seq ?_))
                  refine W_region rfl ?_
                  refine WL_is (X_move rfl rfl) rfl rfl rfl ?_
                  refine WL_is (X_fieldAddr rfl rfl rfl (by simp only [Nat.zero_add] <;> rfl)) rfl rfl rfl ?_
                  refine WL_is (X_fieldAddr rfl rfl rfl (by simp only [Nat.reduceAdd] <;> rfl)) rfl rfl rfl ?_
                  refine WL_is (X_load1 rfl rfl (by exact idx0) rfl rfl) rfl rfl rfl ?_
                  refine WL_is (X_len_sl rfl rfl rfl (by assumption)) rfl rfl rfl ?_
                  refine WL_is (X_lss_f rfl rfl rfl (by omega)) rfl rfl rfl ?_
                  (repeat (first | refine WL_nil ?_ | refine Then_normal ?_ | refine W_seq ?_ | refine W_exit ?_ | refine Then_exit ?_ | refine inBlk_here ?_ | refine W_false rfl ?_))
                  skip
                  refine W_region rfl ?_
                  refine WL_is (X_fieldAddr rfl rfl rfl (by simp only [Nat.zero_add] <;> rfl)) rfl rfl rfl ?_
                  refine WL_is (X_fieldAddr rfl rfl rfl (by simp only [Nat.reduceAdd] <;> rfl)) rfl rfl rfl ?_
                  refine WL_is (X_load1 rfl rfl (by exact idx0) rfl rfl) rfl rfl rfl ?_
                  refine WL_is (X_assign rfl rfl) rfl rfl rfl ?_
                  (repeat (first | refine WL_nil ?_ | refine Then_normal ?_ | refine W_seq ?_))
                  skip
                  refine W_region rfl ?_
                  refine WL_is (X_fieldAddr rfl rfl rfl (by simp only [Nat.zero_add] <;> rfl)) rfl rfl rfl ?_
                  refine WL_is (X_fieldAddr rfl rfl rfl (by simp only [Nat.reduceAdd] <;> rfl)) rfl rfl rfl ?_
                  refine WL_is (X_load1 rfl rfl (by exact idx0) rfl rfl) rfl rfl rfl ?_
                  (repeat (first | refine WL_nil ?_ | refine Then_normal ?_ | refine W_true rfl ?_))
                  skip
                  refine W_region rfl ?_
                  refine WL_is (X_fieldAddr rfl rfl rfl (by simp only [Nat.zero_add] <;> rfl)) rfl rfl rfl ?_
                  refine WL_is (X_fieldAddr rfl rfl rfl (by simp only [Nat.reduceAdd] <;> rfl)) rfl rfl rfl ?_
                  refine WL_is (X_load1 rfl rfl (by exact idx0) rfl rfl) rfl rfl rfl ?_
                  refine WL_is (X_assign rfl rfl) rfl rfl rfl ?_
                  (repeat (first | refine WL_nil ?_ | refine Then_normal ?_ | refine W_seq ?_))
                  skip
                  refine W_region rfl ?_
                  refine WL_is (X_loadA rfl rfl (by exact idx1) rfl rfl rfl) rfl rfl rfl ?_
                  refine WL_is (X_loadA rfl rfl (by exact idx0) rfl rfl rfl) rfl rfl rfl ?_
                  refine WL_is (X_move rfl rfl) rfl rfl rfl ?_
                  refine WL_is (X_move rfl rfl) rfl rfl rfl ?_
                  refine WL_is (X_callv rfl rfl rfl Try.func13 rfl (by assumption)) rfl rfl rfl ?_
                  refine WL_is (X_assign rfl rfl) rfl rfl rfl ?_
                  (repeat (first | refine WL_nil ?_ | refine Then_normal ?_ | refine W_seq ?_))
                  skip
                  refine W_region rfl ?_
                  refine WL_is (X_move rfl rfl) rfl rfl rfl ?_
                  (repeat (first | refine WL_nil ?_ | refine Then_normal ?_ | refine W_seq ?_ | refine W_true rfl ?_))
                  skip
                  refine W_region rfl ?_
                  refine WL_is (X_move rfl rfl) rfl rfl rfl ?_
                  refine WL_is (X_not rfl rfl) rfl rfl rfl ?_
                  refine WL_is (X_move rfl rfl) rfl rfl rfl ?_
                  refine WL_off rfl rfl rfl ?_
                  refine WL_off rfl rfl rfl ?_
                  refine WL_off rfl rfl rfl ?_
                  refine WL_off rfl rfl rfl ?_
                  refine WL_off rfl rfl rfl ?_
                  refine WL_is (X_pick_t rfl rfl rfl) rfl rfl rfl ?_
                  refine WL_is (X_move rfl rfl) rfl rfl rfl ?_
                  refine WL_is (X_callv rfl rfl rfl Try.func9 rfl (by assumption)) rfl rfl rfl ?_
                  refine WL_is (X_pick_t rfl rfl rfl) rfl rfl rfl ?_
                  refine WL_is (X_assign rfl rfl) rfl rfl rfl ?_
                  (repeat (first | refine WL_nil ?_ | refine Then_normal ?_ | refine W_ret ?_ | refine Then_ret ?_))
                  refine Body_end rfl rfl rfl (SubR.none _) ?_
                  rfl
                | false =>
                  (repeat (first | refine W_seq ?_))
                  refine W_region rfl ?_
                  refine WL_is (X_move rfl rfl) rfl rfl rfl ?_
                  refine WL_is (X_fieldAddr rfl rfl rfl (by simp only [Nat.zero_add] <;> rfl)) rfl rfl rfl ?_
                  refine WL_is (X_fieldAddr rfl rfl rfl (by simp only [Nat.reduceAdd] <;> rfl)) rfl rfl rfl ?_
                  refine WL_is (X_load1 rfl rfl (by exact idx0) rfl rfl) rfl rfl rfl ?_
                  refine WL_is (X_len_sl rfl rfl rfl (by assumption)) rfl rfl rfl ?_
                  refine WL_is (X_lss_f rfl rfl rfl (by omega)) rfl rfl rfl ?_
                  (repeat (first | refine WL_nil ?_ | refine Then_normal ?_ | refine W_seq ?_ | refine W_exit ?_ | refine Then_exit ?_ | refine inBlk_here ?_ | refine W_false rfl ?_))
                  skip
                  refine W_region rfl ?_
                  refine WL_is (X_fieldAddr rfl rfl rfl (by simp only [Nat.zero_add] <;> rfl)) rfl rfl rfl ?_
                  refine WL_is (X_fieldAddr rfl rfl rfl (by simp only [Nat.reduceAdd] <;> rfl)) rfl rfl rfl ?_
                  refine WL_is (X_load1 rfl rfl (by exact idx0) rfl rfl) rfl rfl rfl ?_
                  refine WL_is (X_assign rfl rfl) rfl rfl rfl ?_
                  (repeat (first | refine WL_nil ?_ | refine Then_normal ?_ | refine W_seq ?_))
                  skip
                  refine W_region rfl ?_
                  refine WL_is (X_fieldAddr rfl rfl rfl (by simp only [Nat.zero_add] <;> rfl)) rfl rfl rfl ?_
                  refine WL_is (X_fieldAddr rfl rfl rfl (by simp only [Nat.reduceAdd] <;> rfl)) rfl rfl rfl ?_
                  refine WL_is (X_load1 rfl rfl (by exact idx0) rfl rfl) rfl rfl rfl ?_
                  (repeat (first | refine WL_nil ?_ | refine Then_normal ?_ | refine W_true rfl ?_))
                  skip
                  refine W_region rfl ?_
                  refine WL_is (X_fieldAddr rfl rfl rfl (by simp only [Nat.zero_add] <;> rfl)) rfl rfl rfl ?_
                  refine WL_is (X_fieldAddr rfl rfl rfl (by simp only [Nat.reduceAdd] <;> rfl)) rfl rfl rfl ?_
                  refine WL_is (X_load1 rfl rfl (by exact idx0) rfl rfl) rfl rfl rfl ?_
                  refine WL_is (X_assign rfl rfl) rfl rfl rfl ?_
                  (repeat (first | refine WL_nil ?_ | refine Then_normal ?_ | refine W_seq ?_))
                  skip
                  refine W_region rfl ?_
                  refine WL_is (X_loadA rfl rfl (by exact idx1) rfl rfl rfl) rfl rfl rfl ?_
                  refine WL_is (X_loadA rfl rfl (by exact idx0) rfl rfl rfl) rfl rfl rfl ?_
                  refine WL_is (X_move rfl rfl) rfl rfl rfl ?_
                  refine WL_is (X_move rfl rfl) rfl rfl rfl ?_
                  refine WL_is (X_callv rfl rfl rfl Try.func13 rfl (by assumption)) rfl rfl rfl ?_
                  refine WL_is (X_assign rfl rfl) rfl rfl rfl ?_
                  (repeat (first | refine WL_nil ?_ | refine Then_normal ?_ | refine W_seq ?_))
                  skip
                  refine W_region rfl ?_
                  refine WL_is (X_move rfl rfl) rfl rfl rfl ?_
                  (repeat (first | refine WL_nil ?_ | refine Then_normal ?_ | refine W_seq ?_ | refine W_skip ?_ | refine W_false rfl ?_))
                  skip
                  refine W_region rfl ?_
                  refine WL_is (X_move rfl rfl) rfl rfl rfl ?_
                  refine WL_is (X_not rfl rfl) rfl rfl rfl ?_
                  refine WL_is (X_move rfl rfl) rfl rfl rfl ?_
                  refine WL_off rfl rfl rfl ?_
                  refine WL_off rfl rfl rfl ?_
                  refine WL_off rfl rfl rfl ?_
                  refine WL_off rfl rfl rfl ?_
                  refine WL_off rfl rfl rfl ?_
                  refine WL_off rfl rfl rfl ?_
                  refine WL_off rfl rfl rfl ?_
                  refine WL_is (X_pick_t rfl rfl rfl) rfl rfl rfl ?_
                  refine WL_is (X_move rfl rfl) rfl rfl rfl ?_
                  refine WL_is (X_callv rfl rfl rfl Try.func9 rfl (by assumption)) rfl rfl rfl ?_
                  refine WL_is (X_pick_t rfl rfl rfl) rfl rfl rfl ?_
                  refine WL_is (X_assign rfl rfl) rfl rfl rfl ?_
                  (repeat (first | refine WL_nil ?_ | refine Then_normal ?_ | refine W_ret ?_))
                  refine Body_end rfl rfl rfl (SubR.none _) ?_
                  rfl
            | false =>
              rw [hm] at cls k2
              cases hp : mayP c a dir want with
              | true =>
                rw [hp] at k2
                have f := cls hp
                unfold hasP at f
                cases b with
                | true =>
                  have f := of_decide_eq_true f
                  simp only [Bool.false_eq_true, if_false, if_true] at f
                  (repeat (first | refine W_seq ?_))
                  refine W_region rfl ?_
                  refine WL_is (X_move rfl rfl) rfl rfl rfl ?_
                  refine WL_is (X_fieldAddr rfl rfl rfl (by simp only [Nat.zero_add] <;> rfl)) rfl rfl rfl ?_
                  refine WL_is (X_fieldAddr rfl rfl rfl (by simp only [Nat.reduceAdd] <;> rfl)) rfl rfl rfl ?_
                  refine WL_is (X_load1 rfl rfl (by exact idx0) rfl rfl) rfl rfl rfl ?_
                  refine WL_is (X_len_sl rfl rfl rfl (by assumption)) rfl rfl rfl ?_
                  refine WL_is (X_lss_f rfl rfl rfl (by omega)) rfl rfl rfl ?_
                  (repeat (first | refine WL_nil ?_ | refine Then_normal ?_ | refine W_seq ?_ | refine W_exit ?_ | refine Then_exit ?_ | refine inBlk_here ?_ | refine W_false rfl ?_))
                  skip
                  refine W_region rfl ?_
                  refine WL_is (X_fieldAddr rfl rfl rfl (by simp only [Nat.zero_add] <;> rfl)) rfl rfl rfl ?_
                  refine WL_is (X_fieldAddr rfl rfl rfl (by simp only [Nat.reduceAdd] <;> rfl)) rfl rfl rfl ?_
                  refine WL_is (X_load1 rfl rfl (by exact idx0) rfl rfl) rfl rfl rfl ?_
                  refine WL_is (X_assign rfl rfl) rfl rfl rfl ?_
                  (repeat (first | refine WL_nil ?_ | refine Then_normal ?_ | refine W_seq ?_))
                  skip
                  refine W_region rfl ?_
                  refine WL_is (X_fieldAddr rfl rfl rfl (by simp only [Nat.zero_add] <;> rfl)) rfl rfl rfl ?_
                  refine WL_is (X_fieldAddr rfl rfl rfl (by simp only [Nat.reduceAdd] <;> rfl)) rfl rfl rfl ?_
                  refine WL_is (X_load1 rfl rfl (by exact idx0) rfl rfl) rfl rfl rfl ?_
                  (repeat (first | refine WL_nil ?_ | refine Then_normal ?_ | refine W_seq ?_ | refine W_skip ?_ | refine W_false rfl ?_))
                  skip
                  refine W_region rfl ?_
                  refine WL_is (X_loadA rfl rfl (by exact idx1) rfl rfl rfl) rfl rfl rfl ?_
                  refine WL_is (X_loadA rfl rfl (by exact idx0) rfl rfl rfl) rfl rfl rfl ?_
                  refine WL_is (X_move rfl rfl) rfl rfl rfl ?_
                  refine WL_is (X_move rfl rfl) rfl rfl rfl ?_
                  refine WL_is (X_callv rfl rfl rfl Try.func13 rfl (by assumption)) rfl rfl rfl ?_
                  refine WL_is (X_assign rfl rfl) rfl rfl rfl ?_
                  (repeat (first | refine WL_nil ?_ | refine Then_normal ?_ | refine W_seq ?_))
                  skip
                  refine W_region rfl ?_
                  refine WL_is (X_move rfl rfl) rfl rfl rfl ?_
                  (repeat (first | refine WL_nil ?_ | refine Then_normal ?_ | refine W_seq ?_ | refine W_true rfl ?_))
                  skip
                  refine W_region rfl ?_
                  refine WL_is (X_move rfl rfl) rfl rfl rfl ?_
                  refine WL_is (X_not rfl rfl) rfl rfl rfl ?_
                  refine WL_is (X_move rfl rfl) rfl rfl rfl ?_
                  refine WL_is (X_move rfl rfl) rfl rfl rfl ?_
                  refine WL_is (X_move rfl rfl) rfl rfl rfl ?_
                  refine WL_is (X_and rfl rfl rfl) rfl rfl rfl ?_
                  refine WL_is (X_move rfl rfl) rfl rfl rfl ?_
                  refine WL_is (X_eql_t rfl rfl rfl (by omega)) rfl rfl rfl ?_
                  refine WL_is (X_pick_f rfl rfl rfl) rfl rfl rfl ?_
                  refine WL_is (X_move rfl rfl) rfl rfl rfl ?_
                  refine WL_is (X_callv rfl rfl rfl Try.func9 rfl (by assumption)) rfl rfl rfl ?_
                  refine WL_is (X_pick_t rfl rfl rfl) rfl rfl rfl ?_
                  refine WL_is (X_assign rfl rfl) rfl rfl rfl ?_
                  (repeat (first | refine WL_nil ?_ | refine Then_normal ?_ | refine W_ret ?_ | refine Then_ret ?_))
                  refine Body_end rfl rfl rfl (SubR.none _) ?_
                  rfl
                | false =>
                  have f := of_decide_eq_true f
                  simp only [Bool.false_eq_true, if_false] at f
                  (repeat (first | refine W_seq ?_))
                  refine W_region rfl ?_
                  refine WL_is (X_move rfl rfl) rfl rfl rfl ?_
                  refine WL_is (X_fieldAddr rfl rfl rfl (by simp only [Nat.zero_add] <;> rfl)) rfl rfl rfl ?_
                  refine WL_is (X_fieldAddr rfl rfl rfl (by simp only [Nat.reduceAdd] <;> rfl)) rfl rfl rfl ?_
                  refine WL_is (X_load1 rfl rfl (by exact idx0) rfl rfl) rfl rfl rfl ?_
                  refine WL_is (X_len_sl rfl rfl rfl (by assumption)) rfl rfl rfl ?_
                  refine WL_is (X_lss_f rfl rfl rfl (by omega)) rfl rfl rfl ?_
                  (repeat (first | refine WL_nil ?_ | refine Then_normal ?_ | refine W_seq ?_ | refine W_exit ?_ | refine Then_exit ?_ | refine inBlk_here ?_ | refine W_false rfl ?_))
                  skip
                  refine W_region rfl ?_
                  refine WL_is (X_fieldAddr rfl rfl rfl (by simp only [Nat.zero_add] <;> rfl)) rfl rfl rfl ?_
                  refine WL_is (X_fieldAddr rfl rfl rfl (by simp only [Nat.reduceAdd] <;> rfl)) rfl rfl rfl ?_
                  refine WL_is (X_load1 rfl rfl (by exact idx0) rfl rfl) rfl rfl rfl ?_
                  refine WL_is (X_assign rfl rfl) rfl rfl rfl ?_
                  (repeat (first | refine WL_nil ?_ | refine Then_normal ?_ | refine W_seq ?_))
                  skip
                  refine W_region rfl ?_
                  refine WL_is (X_fieldAddr rfl rfl rfl (by simp only [Nat.zero_add] <;> rfl)) rfl rfl rfl ?_
                  refine WL_is (X_fieldAddr rfl rfl rfl (by simp only [Nat.reduceAdd] <;> rfl)) rfl rfl rfl ?_
                  refine WL_is (X_load1 rfl rfl (by exact idx0) rfl rfl) rfl rfl rfl ?_
                  (repeat (first | refine WL_nil ?_ | refine Then_normal ?_ | refine W_seq ?_ | refine W_skip ?_ | refine W_false rfl ?_))
                  skip
                  refine W_region rfl ?_
                  refine WL_is (X_loadA rfl rfl (by exact idx1) rfl rfl rfl) rfl rfl rfl ?_
                  refine WL_is (X_loadA rfl rfl (by exact idx0) rfl rfl rfl) rfl rfl rfl ?_
                  refine WL_is (X_move rfl rfl) rfl rfl rfl ?_
                  refine WL_is (X_move rfl rfl) rfl rfl rfl ?_
                  refine WL_is (X_callv rfl rfl rfl Try.func13 rfl (by assumption)) rfl rfl rfl ?_
                  refine WL_is (X_assign rfl rfl) rfl rfl rfl ?_
                  (repeat (first | refine WL_nil ?_ | refine Then_normal ?_ | refine W_seq ?_))
                  skip
                  refine W_region rfl ?_
                  refine WL_is (X_move rfl rfl) rfl rfl rfl ?_
                  (repeat (first | refine WL_nil ?_ | refine Then_normal ?_ | refine W_seq ?_ | refine W_skip ?_ | refine W_false rfl ?_))
                  skip
                  refine W_region rfl ?_
                  refine WL_is (X_move rfl rfl) rfl rfl rfl ?_
                  refine WL_is (X_not rfl rfl) rfl rfl rfl ?_
                  refine WL_is (X_move rfl rfl) rfl rfl rfl ?_
                  refine WL_is (X_fieldAddr rfl rfl rfl (by simp only [Nat.zero_add] <;> rfl)) rfl rfl rfl ?_
                  refine WL_is (X_fieldAddr rfl rfl rfl (by simp only [Nat.reduceAdd] <;> rfl)) rfl rfl rfl ?_
                  refine WL_is (X_load1 rfl rfl (by exact idx0) rfl rfl) rfl rfl rfl ?_
                  refine WL_is (X_move rfl rfl) rfl rfl rfl ?_
                  refine WL_is (X_and rfl rfl rfl) rfl rfl rfl ?_
                  refine WL_is (X_move rfl rfl) rfl rfl rfl ?_
                  refine WL_is (X_eql_t rfl rfl rfl (by omega)) rfl rfl rfl ?_
                  refine WL_is (X_pick_f rfl rfl rfl) rfl rfl rfl ?_
                  refine WL_is (X_move rfl rfl) rfl rfl rfl ?_
                  refine WL_is (X_callv rfl rfl rfl Try.func9 rfl (by assumption)) rfl rfl rfl ?_
                  refine WL_is (X_pick_t rfl rfl rfl) rfl rfl rfl ?_
                  refine WL_is (X_assign rfl rfl) rfl rfl rfl ?_
                  (repeat (first | refine WL_nil ?_ | refine Then_normal ?_ | refine W_ret ?_))
                  refine Body_end rfl rfl rfl (SubR.none _) ?_
                  rfl
              | false =>
                rw [hp] at k2
                cases b with
                | true =>
                  (repeat (first | refine W_seq ?_))
                  refine W_region rfl ?_
                  refine WL_is (X_move rfl rfl) rfl rfl rfl ?_
                  refine WL_is (X_fieldAddr rfl rfl rfl (by simp only [Nat.zero_add] <;> rfl)) rfl rfl rfl ?_
                  refine WL_is (X_fieldAddr rfl rfl rfl (by simp only [Nat.reduceAdd] <;> rfl)) rfl rfl rfl ?_
                  refine WL_is (X_load1 rfl rfl (by exact idx0) rfl rfl) rfl rfl rfl ?_
                  refine WL_is (X_len_sl rfl rfl rfl (by assumption)) rfl rfl rfl ?_
                  refine WL_is (X_lss_f rfl rfl rfl (by omega)) rfl rfl rfl ?_
                  (repeat (first | refine WL_nil ?_ | refine Then_normal ?_ | refine W_seq ?_ | refine W_exit ?_ | refine Then_exit ?_ | refine inBlk_here ?_ | refine W_false rfl ?_))
                  skip
                  refine W_region rfl ?_
                  refine WL_is (X_fieldAddr rfl rfl rfl (by simp only [Nat.zero_add] <;> rfl)) rfl rfl rfl ?_
                  refine WL_is (X_fieldAddr rfl rfl rfl (by simp only [Nat.reduceAdd] <;> rfl)) rfl rfl rfl ?_
                  refine WL_is (X_load1 rfl rfl (by exact idx0) rfl rfl) rfl rfl rfl ?_
                  refine WL_is (X_assign rfl rfl) rfl rfl rfl ?_
                  (repeat (first | refine WL_nil ?_ | refine Then_normal ?_ | refine W_seq ?_))
                  skip
                  refine W_region rfl ?_
                  refine WL_is (X_fieldAddr rfl rfl rfl (by simp only [Nat.zero_add] <;> rfl)) rfl rfl rfl ?_
                  refine WL_is (X_fieldAddr rfl rfl rfl (by simp only [Nat.reduceAdd] <;> rfl)) rfl rfl rfl ?_
                  refine WL_is (X_load1 rfl rfl (by exact idx0) rfl rfl) rfl rfl rfl ?_
                  (repeat (first | refine WL_nil ?_ | refine Then_normal ?_ | refine W_seq ?_ | refine W_skip ?_ | refine W_false rfl ?_))
                  skip
                  refine W_region rfl ?_
                  refine WL_is (X_loadA rfl rfl (by exact idx1) rfl rfl rfl) rfl rfl rfl ?_
                  refine WL_is (X_loadA rfl rfl (by exact idx0) rfl rfl rfl) rfl rfl rfl ?_
                  refine WL_is (X_move rfl rfl) rfl rfl rfl ?_
                  refine WL_is (X_move rfl rfl) rfl rfl rfl ?_
                  refine WL_is (X_callv rfl rfl rfl Try.func13 rfl (by assumption)) rfl rfl rfl ?_
                  refine WL_is (X_assign rfl rfl) rfl rfl rfl ?_
                  (repeat (first | refine WL_nil ?_ | refine Then_normal ?_ | refine W_seq ?_))
                  skip
                  refine W_region rfl ?_
                  refine WL_is (X_move rfl rfl) rfl rfl rfl ?_
                  (repeat (first | refine WL_nil ?_ | refine Then_normal ?_ | refine W_seq ?_ | refine W_true rfl ?_))
                  skip
                  refine W_region rfl ?_
                  refine WL_is (X_move rfl rfl) rfl rfl rfl ?_
                  refine WL_is (X_not rfl rfl) rfl rfl rfl ?_
                  refine WL_is (X_move rfl rfl) rfl rfl rfl ?_
                  refine WL_off rfl rfl rfl ?_
                  refine WL_off rfl rfl rfl ?_
                  refine WL_off rfl rfl rfl ?_
                  refine WL_off rfl rfl rfl ?_
                  refine WL_off rfl rfl rfl ?_
                  refine WL_is (X_pick_t rfl rfl rfl) rfl rfl rfl ?_
                  refine WL_is (X_move rfl rfl) rfl rfl rfl ?_
                  refine WL_is (X_callv rfl rfl rfl Try.func9 rfl (by assumption)) rfl rfl rfl ?_
                  refine WL_is (X_pick_t rfl rfl rfl) rfl rfl rfl ?_
                  refine WL_is (X_assign rfl rfl) rfl rfl rfl ?_
                  (repeat (first | refine WL_nil ?_ | refine Then_normal ?_ | refine W_ret ?_ | refine Then_ret ?_))
                  refine Body_end rfl rfl rfl (SubR.none _) ?_
                  rfl
                | false =>
                  (repeat (first | refine W_seq ?_))
                  refine W_region rfl ?_
                  refine WL_is (X_move rfl rfl) rfl rfl rfl ?_
                  refine WL_is (X_fieldAddr rfl rfl rfl (by simp only [Nat.zero_add] <;> rfl)) rfl rfl rfl ?_
                  refine WL_is (X_fieldAddr rfl rfl rfl (by simp only [Nat.reduceAdd] <;> rfl)) rfl rfl rfl ?_
                  refine WL_is (X_load1 rfl rfl (by exact idx0) rfl rfl) rfl rfl rfl ?_
                  refine WL_is (X_len_sl rfl rfl rfl (by assumption)) rfl rfl rfl ?_
                  refine WL_is (X_lss_f rfl rfl rfl (by omega)) rfl rfl rfl ?_
                  (repeat (first | refine WL_nil ?_ | refine Then_normal ?_ | refine W_seq ?_ | refine W_exit ?_ | refine Then_exit ?_ | refine inBlk_here ?_ | refine W_false rfl ?_))
                  skip
                  refine W_region rfl ?_
                  refine WL_is (X_fieldAddr rfl rfl rfl (by simp only [Nat.zero_add] <;> rfl)) rfl rfl rfl ?_
                  refine WL_is (X_fieldAddr rfl rfl rfl (by simp only [Nat.reduceAdd] <;> rfl)) rfl rfl rfl ?_
                  refine WL_is (X_load1 rfl rfl (by exact idx0) rfl rfl) rfl rfl rfl ?_
                  refine WL_is (X_assign rfl rfl) rfl rfl rfl ?_
                  (repeat (first | refine WL_nil ?_ | refine Then_normal ?_ | refine W_seq ?_))
                  skip
                  refine W_region rfl ?_
                  refine WL_is (X_fieldAddr rfl rfl rfl (by simp only [Nat.zero_add] <;> rfl)) rfl rfl rfl ?_
                  refine WL_is (X_fieldAddr rfl rfl rfl (by simp only [Nat.reduceAdd] <;> rfl)) rfl rfl rfl ?_
                  refine WL_is (X_load1 rfl rfl (by exact idx0) rfl rfl) rfl rfl rfl ?_
                  (repeat (first | refine WL_nil ?_ | refine Then_normal ?_ | refine W_seq ?_ | refine W_skip ?_ | refine W_false rfl ?_))
                  skip
                  refine W_region rfl ?_
                  refine WL_is (X_loadA rfl rfl (by exact idx1) rfl rfl rfl) rfl rfl rfl ?_
                  refine WL_is (X_loadA rfl rfl (by exact idx0) rfl rfl rfl) rfl rfl rfl ?_
                  refine WL_is (X_move rfl rfl) rfl rfl rfl ?_
                  refine WL_is (X_move rfl rfl) rfl rfl rfl ?_
                  refine WL_is (X_callv rfl rfl rfl Try.func13 rfl (by assumption)) rfl rfl rfl ?_
                  refine WL_is (X_assign rfl rfl) rfl rfl rfl ?_
                  (repeat (first | refine WL_nil ?_ | refine Then_normal ?_ | refine W_seq ?_))
                  skip
                  refine W_region rfl ?_
                  refine WL_is (X_move rfl rfl) rfl rfl rfl ?_
                  (repeat (first | refine WL_nil ?_ | refine Then_normal ?_ | refine W_seq ?_ | refine W_skip ?_ | refine W_false rfl ?_))
                  skip
                  refine W_region rfl ?_
                  refine WL_is (X_move rfl rfl) rfl rfl rfl ?_
                  refine WL_is (X_not rfl rfl) rfl rfl rfl ?_
                  refine WL_is (X_move rfl rfl) rfl rfl rfl ?_
                  refine WL_off rfl rfl rfl ?_
                  refine WL_off rfl rfl rfl ?_
                  refine WL_off rfl rfl rfl ?_
                  refine WL_off rfl rfl rfl ?_
                  refine WL_off rfl rfl rfl ?_
                  refine WL_off rfl rfl rfl ?_
                  refine WL_off rfl rfl rfl ?_
                  refine WL_is (X_pick_t rfl rfl rfl) rfl rfl rfl ?_
                  refine WL_is (X_move rfl rfl) rfl rfl rfl ?_
                  refine WL_is (X_callv rfl rfl rfl Try.func9 rfl (by assumption)) rfl rfl rfl ?_
                  refine WL_is (X_pick_t rfl rfl rfl) rfl rfl rfl ?_
                  refine WL_is (X_assign rfl rfl) rfl rfl rfl ?_
                  (repeat (first | refine WL_nil ?_ | refine Then_normal ?_ | refine W_ret ?_))
                  refine Body_end rfl rfl rfl (SubR.none _) ?_
                  rfl
end Go.Proofs.Ytjampjbhaekjbaa
