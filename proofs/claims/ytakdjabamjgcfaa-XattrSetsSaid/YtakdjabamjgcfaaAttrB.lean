/- Attributes: which may be, by the package's own check. -/
import Derived.Test.YtakdjabamjgcfaaAttrA
namespace Go.Proofs.Ytakdjabamjgcfaa
set_option maxRecDepth 4000
open Go Go.Par PH
/-- A round of a list's check. -/
theorem goodX_at {l : List (ByteArray × ByteArray)} {k : Nat} (hk : k < l.length) : goodX l k = (valB l[k] && (decide (k = 0) || !strGe l[k - 1].1 l[k].1)) := by
  unfold goodX; rw [dif_pos hk]
theorem goodX_0 {l : List (ByteArray × ByteArray)} (hk : 0 < l.length) : goodX l 0 = valB l[0] := by rw [goodX_at hk]; simp
theorem goodX_s {l : List (ByteArray × ByteArray)} {j : Nat} (hk : j + 1 < l.length) : goodX l (j + 1) = (valB l[j + 1] && !strGe l[j].1 l[j + 1].1) := by rw [goodX_at hk]; simp
theorem allX_true {l : List (ByteArray × ByteArray)} (h : ∀ j, j < l.length → goodX l j = true) : allB l.length (goodX l) = true := allB_iff.2 h
abbrev attrC (a : Attr) (u g u2 g2 x : Value) : List Value := [.int .u8 a.bits, .int .u16 a.uid, .int .u16 a.gid, .int .u8 a.acc.o, .int .u8 a.acc.g, .int .u8 a.acc.t, u, g, .bool a.acc.hm, .int .u8 a.acc.m, .bool a.hd,
  .int .u8 a.df.o, .int .u8 a.df.g, .int .u8 a.df.t, u2, g2, .bool a.df.hm, .int .u8 a.df.m, x]
def Attr.dfB (a : Attr) : Bool := a.df.may && (a.hd || decide (a.df = acl0))
theorem Attr.may_eq (a : Attr) : a.may = (decide (a.bits ≤ 7) && a.acc.may && a.dfB && decide (a.xs.length ≤ 4) && allB a.xs.length (goodX a.xs)) := by
  unfold Attr.may Attr.dfB
  cases a.hd with
  | true => simp only [if_true, Bool.true_or, Bool.and_true]; generalize decide (a.bits ≤ 7) = x1; generalize a.acc.may = x2; generalize a.df.may = x3; generalize decide (a.xs.length ≤ 4) = x4; generalize allB a.xs.length (goodX a.xs) = x5; cases x1 <;> cases x2 <;> cases x3 <;> cases x4 <;> cases x5 <;> rfl
  | false =>
    by_cases he : a.df = acl0
    · rw [he, acl0_may]; simp
    · simp [he]
attribute [local irreducible] W WL Does Exec Body Then inBlk RG WR row obj pblk
set_option maxHeartbeats 2000000 in
theorem attrCheck_fn (h : PH) (a : Attr) (v : Value) (hv : AttrV h v a) (hs : a.small) (hok : a.Ok) : Does Try.prog 29 [v] [] h (Ret fun r _ _ => r = .int .i64 (if a.may then 0 else 622)) := by
  have hbits := hok.bits
  unfold u8 at hbits
  rw [Attr.may_eq]
  obtain ⟨u, g, u2, g2, x, rfl, h1, h2, h3, h4, h5⟩ := hv
  have hA : AclV h (aclV a.acc u g) a.acc := ⟨u, g, rfl, h1, h2⟩
  have hD : AclV h (aclV a.df u2 g2) a.df := ⟨u2, g2, rfl, h3, h4⟩
  have hZ : AclV h (aclV acl0 (.slice none 0 0) (.slice none 0 0)) acl0 := ⟨_, _, rfl, Sl.nil, Sl.nil⟩
  have c1 := check_fn h a.df _ hD hs.df hok.df
  have c2 := same_fn h a.df acl0 _ _ hD hZ hs.df ⟨by decide, by decide⟩
  have c3 := check_fn h a.acc _ hA hs.acc hok.acc
  have hdB : a.dfB = (a.df.may && (a.hd || decide (a.df = acl0))) := rfl
  simp only [aclV] at c1 c2 c3
  obtain ⟨xa, xc, rfl⟩ := h5.shape
  unfold attrV
  refine Does_of_W Try.func29 rfl (n := 67) rfl rfl (by simp only [argE] <;> rfl) ?_
  (repeat (first | refine W_seq ?_))
  skip
  refine W_region rfl ?_
  (refine WL_box rfl rfl rfl rfl rfl rfl ?_; intro b_)
  refine WL_is (X_assign rfl rfl) rfl rfl rfl ?_
  (repeat (first | refine WL_nil ?_ | refine Then_normal ?_ | refine W_seq ?_))
  generalize b_ = bb
  refine W_cutT (X := Unit) (L := fun _ => ⟨[(1, .pointer (some ⟨bb, 0, none⟩)), (3, .bool a.dfB)], [], [blk bb (attrC a u g u2 g2 (.slice xa a.xs.length xc)) 58], h⟩) (fun _ => True) ?_ ?_
  · cases hm : a.df.may with
    | false =>
      rw [hm] at c1 hdB
      simp only [Bool.false_eq_true, if_false, Bool.false_and] at c1 hdB
      rw [hdB]
      skip
      refine W_region rfl ?_
      refine WL_is (X_fieldAddr rfl rfl rfl (by simp only [Nat.zero_add] <;> rfl)) rfl rfl rfl ?_
      refine WL_is (X_loadA rfl rfl (by exact idx0) rfl rfl rfl) rfl rfl rfl ?_
      refine WL_is (X_callv rfl rfl rfl Try.func38 rfl (by assumption)) rfl rfl rfl ?_
      refine WL_is (X_eql_f rfl rfl rfl (by omega)) rfl rfl rfl ?_
      refine WL_is (X_move rfl rfl) rfl rfl rfl ?_
      refine WL_off rfl rfl rfl ?_
      refine WL_off rfl rfl rfl ?_
      refine WL_off rfl rfl rfl ?_
      refine WL_off rfl rfl rfl ?_
      refine WL_off rfl rfl rfl ?_
      refine WL_off rfl rfl rfl ?_
      refine WL_off rfl rfl rfl ?_
      refine WL_off rfl rfl rfl ?_
      refine WL_is (X_pick_f rfl rfl rfl) rfl rfl rfl ?_
      refine WL_is (X_assign rfl rfl) rfl rfl rfl ?_
      (repeat (first | refine WL_nil ?_ | refine Then_normal ?_))
      exact ⟨(), ⟨(by repeat (first | exact SubE_nil | refine SubE_cons rfl ?_)), rfl, SubR.refl _, rfl⟩, trivial⟩
    | true =>
      rw [hm] at c1 hdB
      simp only [if_true, Bool.true_and] at c1 hdB
      cases hh : a.hd with
      | true =>
        rw [hh] at hdB
        simp only [Bool.true_or] at hdB
        rw [hdB]
        skip
        refine W_region rfl ?_
        refine WL_is (X_fieldAddr rfl rfl rfl (by simp only [Nat.zero_add] <;> rfl)) rfl rfl rfl ?_
        refine WL_is (X_loadA rfl rfl (by exact idx0) rfl rfl rfl) rfl rfl rfl ?_
        refine WL_is (X_callv rfl rfl rfl Try.func38 rfl (by assumption)) rfl rfl rfl ?_
        refine WL_is (X_eql_t rfl rfl rfl (by omega)) rfl rfl rfl ?_
        refine WL_is (X_move rfl rfl) rfl rfl rfl ?_
        refine WL_is (X_fieldAddr rfl rfl rfl (by simp only [Nat.zero_add] <;> rfl)) rfl rfl rfl ?_
        refine WL_is (X_load1 rfl rfl (by exact idx0) rfl rfl) rfl rfl rfl ?_
        refine WL_is (X_move rfl rfl) rfl rfl rfl ?_
        refine WL_off rfl rfl rfl ?_
        refine WL_off rfl rfl rfl ?_
        refine WL_off rfl rfl rfl ?_
        refine WL_off rfl rfl rfl ?_
        refine WL_is (X_pick_t rfl rfl rfl) rfl rfl rfl ?_
        refine WL_is (X_pick_t rfl rfl rfl) rfl rfl rfl ?_
        refine WL_is (X_assign rfl rfl) rfl rfl rfl ?_
        (repeat (first | refine WL_nil ?_ | refine Then_normal ?_))
        exact ⟨(), ⟨by simp only; exact (by repeat (first | exact SubE_nil | refine SubE_cons rfl ?_)), rfl, by simp only [attrC, hh]; exact SubR.refl _, rfl⟩, trivial⟩
      | false =>
        rw [hh] at hdB
        simp only [Bool.false_or] at hdB
        rw [← hdB] at c2
        skip
        refine W_region rfl ?_
        refine WL_is (X_fieldAddr rfl rfl rfl (by simp only [Nat.zero_add] <;> rfl)) rfl rfl rfl ?_
        refine WL_is (X_loadA rfl rfl (by exact idx0) rfl rfl rfl) rfl rfl rfl ?_
        refine WL_is (X_callv rfl rfl rfl Try.func38 rfl (by assumption)) rfl rfl rfl ?_
        refine WL_is (X_eql_t rfl rfl rfl (by omega)) rfl rfl rfl ?_
        refine WL_is (X_move rfl rfl) rfl rfl rfl ?_
        refine WL_is (X_fieldAddr rfl rfl rfl (by simp only [Nat.zero_add] <;> rfl)) rfl rfl rfl ?_
        refine WL_is (X_load1 rfl rfl (by exact idx0) rfl rfl) rfl rfl rfl ?_
        refine WL_is (X_move rfl rfl) rfl rfl rfl ?_
        refine WL_is (X_fieldAddr rfl rfl rfl (by simp only [Nat.zero_add] <;> rfl)) rfl rfl rfl ?_
        refine WL_is (X_loadA rfl rfl (by exact idx0) rfl rfl rfl) rfl rfl rfl ?_
        refine WL_is (X_build rfl rfl rfl) rfl rfl rfl ?_
        refine WL_is (X_callv rfl rfl rfl Try.func39 rfl (by assumption)) rfl rfl rfl ?_
        refine WL_is (X_pick_f rfl rfl rfl) rfl rfl rfl ?_
        refine WL_is (X_pick_t rfl rfl rfl) rfl rfl rfl ?_
        refine WL_is (X_assign rfl rfl) rfl rfl rfl ?_
        (repeat (first | refine WL_nil ?_ | refine Then_normal ?_))
        exact ⟨(), ⟨by simp only; exact (by repeat (first | exact SubE_nil | refine SubE_cons rfl ?_)), rfl, by simp only [attrC, hh]; exact SubR.refl _, rfl⟩, trivial⟩
  rintro - -
  generalize a.dfB = db
  by_cases hb7 : a.bits ≤ 7
  · cases hm : a.acc.may with
    | false =>
      rw [hm] at c3
      simp only [Bool.false_eq_true, if_false] at c3
      (repeat (first | refine W_seq ?_))
      refine W_region rfl ?_
      refine WL_is (X_fieldAddr rfl rfl rfl (by simp only [Nat.zero_add] <;> rfl)) rfl rfl rfl ?_
      refine WL_is (X_load1 rfl rfl (by exact idx0) rfl rfl) rfl rfl rfl ?_
      refine WL_is (X_gtr_f rfl rfl rfl (by omega)) rfl rfl rfl ?_
      refine WL_is (X_move rfl rfl) rfl rfl rfl ?_
      refine WL_is (X_fieldAddr rfl rfl rfl (by simp only [Nat.zero_add] <;> rfl)) rfl rfl rfl ?_
      refine WL_is (X_loadA rfl rfl (by exact idx0) rfl rfl rfl) rfl rfl rfl ?_
      refine WL_is (X_callv rfl rfl rfl Try.func38 rfl (by assumption)) rfl rfl rfl ?_
      refine WL_is (X_neq_t rfl rfl rfl (by omega)) rfl rfl rfl ?_
      refine WL_is (X_pick_f rfl rfl rfl) rfl rfl rfl ?_
      refine WL_is (X_move rfl rfl) rfl rfl rfl ?_
      refine WL_off rfl rfl rfl ?_
      refine WL_off rfl rfl rfl ?_
      refine WL_is (X_pick_t rfl rfl rfl) rfl rfl rfl ?_
      refine WL_is (X_move rfl rfl) rfl rfl rfl ?_
      refine WL_off rfl rfl rfl ?_
      refine WL_off rfl rfl rfl ?_
      refine WL_off rfl rfl rfl ?_
      refine WL_off rfl rfl rfl ?_
      refine WL_is (X_pick_t rfl rfl rfl) rfl rfl rfl ?_
      (repeat (first | refine WL_nil ?_ | refine Then_normal ?_ | refine W_seq ?_ | refine W_true rfl ?_))
      skip
      refine W_region rfl ?_
      refine WL_is (X_assign rfl rfl) rfl rfl rfl ?_
      (repeat (first | refine WL_nil ?_ | refine Then_normal ?_ | refine W_ret ?_ | refine Then_ret ?_))
      refine Body_end rfl rfl rfl (SubR.none _) ?_
      simp
    | true =>
      rw [hm] at c3
      simp only [if_true] at c3
      cases db with
      | false =>
        (repeat (first | refine W_seq ?_))
        refine W_region rfl ?_
        refine WL_is (X_fieldAddr rfl rfl rfl (by simp only [Nat.zero_add] <;> rfl)) rfl rfl rfl ?_
        refine WL_is (X_load1 rfl rfl (by exact idx0) rfl rfl) rfl rfl rfl ?_
        refine WL_is (X_gtr_f rfl rfl rfl (by omega)) rfl rfl rfl ?_
        refine WL_is (X_move rfl rfl) rfl rfl rfl ?_
        refine WL_is (X_fieldAddr rfl rfl rfl (by simp only [Nat.zero_add] <;> rfl)) rfl rfl rfl ?_
        refine WL_is (X_loadA rfl rfl (by exact idx0) rfl rfl rfl) rfl rfl rfl ?_
        refine WL_is (X_callv rfl rfl rfl Try.func38 rfl (by assumption)) rfl rfl rfl ?_
        refine WL_is (X_neq_f rfl rfl rfl (by omega)) rfl rfl rfl ?_
        refine WL_is (X_pick_f rfl rfl rfl) rfl rfl rfl ?_
        refine WL_is (X_move rfl rfl) rfl rfl rfl ?_
        refine WL_is (X_move rfl rfl) rfl rfl rfl ?_
        refine WL_is (X_not rfl rfl) rfl rfl rfl ?_
        refine WL_is (X_pick_f rfl rfl rfl) rfl rfl rfl ?_
        refine WL_is (X_move rfl rfl) rfl rfl rfl ?_
        refine WL_off rfl rfl rfl ?_
        refine WL_off rfl rfl rfl ?_
        refine WL_off rfl rfl rfl ?_
        refine WL_off rfl rfl rfl ?_
        refine WL_is (X_pick_t rfl rfl rfl) rfl rfl rfl ?_
        (repeat (first | refine WL_nil ?_ | refine Then_normal ?_ | refine W_seq ?_ | refine W_true rfl ?_))
        skip
        refine W_region rfl ?_
        refine WL_is (X_assign rfl rfl) rfl rfl rfl ?_
        (repeat (first | refine WL_nil ?_ | refine Then_normal ?_ | refine W_ret ?_ | refine Then_ret ?_))
        refine Body_end rfl rfl rfl (SubR.none _) ?_
        simp
      | true =>
        by_cases hx4 : a.xs.length ≤ 4
        · (repeat (first | refine W_seq ?_))
          refine W_region rfl ?_
          refine WL_is (X_fieldAddr rfl rfl rfl (by simp only [Nat.zero_add] <;> rfl)) rfl rfl rfl ?_
          refine WL_is (X_load1 rfl rfl (by exact idx0) rfl rfl) rfl rfl rfl ?_
          refine WL_is (X_gtr_f rfl rfl rfl (by omega)) rfl rfl rfl ?_
          refine WL_is (X_move rfl rfl) rfl rfl rfl ?_
          refine WL_is (X_fieldAddr rfl rfl rfl (by simp only [Nat.zero_add] <;> rfl)) rfl rfl rfl ?_
          refine WL_is (X_loadA rfl rfl (by exact idx0) rfl rfl rfl) rfl rfl rfl ?_
          refine WL_is (X_callv rfl rfl rfl Try.func38 rfl (by assumption)) rfl rfl rfl ?_
          refine WL_is (X_neq_f rfl rfl rfl (by omega)) rfl rfl rfl ?_
          refine WL_is (X_pick_f rfl rfl rfl) rfl rfl rfl ?_
          refine WL_is (X_move rfl rfl) rfl rfl rfl ?_
          refine WL_is (X_move rfl rfl) rfl rfl rfl ?_
          refine WL_is (X_not rfl rfl) rfl rfl rfl ?_
          refine WL_is (X_pick_f rfl rfl rfl) rfl rfl rfl ?_
          refine WL_is (X_move rfl rfl) rfl rfl rfl ?_
          refine WL_is (X_fieldAddr rfl rfl rfl (by simp only [Nat.zero_add] <;> rfl)) rfl rfl rfl ?_
          refine WL_is (X_load1 rfl rfl (by exact idx0) rfl rfl) rfl rfl rfl ?_
          refine WL_is (X_len_sl rfl rfl rfl (by assumption)) rfl rfl rfl ?_
          refine WL_is (X_gtr_f rfl rfl rfl (by omega)) rfl rfl rfl ?_
          refine WL_is (X_pick_f rfl rfl rfl) rfl rfl rfl ?_
          (repeat (first | refine WL_nil ?_ | refine Then_normal ?_ | refine W_seq ?_ | refine W_skip ?_ | refine W_false rfl ?_))
          skip
          refine W_region rfl ?_
          refine WL_is (X_fieldAddr rfl rfl rfl (by simp only [Nat.zero_add] <;> rfl)) rfl rfl rfl ?_
          refine WL_is (X_load1 rfl rfl (by exact idx0) rfl rfl) rfl rfl rfl ?_
          refine WL_is (X_len_sl rfl rfl rfl (by assumption)) rfl rfl rfl ?_
          refine WL_is (X_move rfl rfl) rfl rfl rfl ?_
          (repeat (first | refine WL_nil ?_ | refine Then_normal ?_ | refine W_block ?_))
          refine W_loop (X := Nat) (L := fun k => ⟨[(42, .int .i64 (k : Int)), (41, .int .i64 (a.xs.length : Int)), (40, .slice xa a.xs.length xc), (1, .pointer (some ⟨bb, 0, none⟩))], [], [blk bb (attrC a u g u2 g2 (.slice xa a.xs.length xc)) 58], h⟩)
            (p := fun k => k ≤ a.xs.length ∧ ∀ j, j < k → goodX a.xs j = true) (μ := fun k => a.xs.length - k) 0 ⟨(by repeat (first | exact SubE_nil | refine SubE_cons rfl ?_)), rfl, SubR.refl _, rfl⟩ ⟨Nat.zero_le _, fun j hj => by omega⟩ ?_
          rintro k ⟨hk, hgood⟩
          by_cases hlt : k < a.xs.length
          · have c4 := value_fn h a.xs[k]
            (repeat (first | refine W_seq ?_))
            refine W_region rfl ?_
            refine WL_is (X_lss_t rfl rfl rfl (by omega)) rfl rfl rfl ?_
            (repeat (first | refine WL_nil ?_ | refine Then_normal ?_ | refine W_seq ?_ | refine W_skip ?_ | refine W_block ?_ | refine W_true rfl ?_))
            skip
            refine W_region rfl ?_
            refine WL_is (X_move rfl rfl) rfl rfl rfl ?_
            (refine WL_index_slN rfl rfl rfl rfl rfl (by assumption) (by omega) rfl rfl rfl ?_; intro p_ hp_)
            refine WL_is (X_loadA_at rfl rfl (by assumption) rfl rfl rfl) rfl rfl rfl ?_
            (refine WL_alloc rfl rfl rfl rfl rfl rfl ?_; intro b_)
            refine WL_is (X_assign rfl rfl) rfl rfl rfl ?_
            refine WL_store rfl rfl rfl (by exact idx0) rfl rfl rfl rfl rfl rfl rfl rfl rfl ?_
            (repeat (first | refine WL_nil ?_ | refine Then_normal ?_ | refine W_seq ?_))
            generalize b_ = xb
            rcases Nat.eq_zero_or_pos k with rfl | hpos
            · have hgx := goodX_0 hlt
              cases hvb : valB a.xs[0] with
              | false =>
                rw [hvb] at c4 hgx
                skip
                refine W_draw0 16 rfl rfl rfl rfl ?_
                refine RG_val rfl rfl (fun _ => rfl) (fun _ => X_loadA rfl rfl (by exact idx0) rfl rfl rfl) ?_
                refine RG_val rfl rfl (fun _ => rfl) (fun _ => X_callv rfl rfl rfl Try.func40 rfl (by assumption)) ?_
                refine RG_val rfl rfl (fun _ => rfl) (fun _ => X_not rfl rfl) ?_
                refine RG_val rfl rfl (fun _ => rfl) (fun _ => X_move rfl rfl) ?_
                refine RG_off rfl rfl (fun _ => rfl) ?_
                refine RG_off rfl rfl (fun _ => rfl) ?_
                refine RG_off rfl rfl (fun _ => rfl) ?_
                refine RG_off rfl rfl (fun _ => rfl) ?_
                refine RG_off rfl rfl (fun _ => rfl) ?_
                refine RG_off rfl rfl (fun _ => rfl) ?_
                refine RG_off rfl rfl (fun _ => rfl) ?_
                refine RG_off rfl rfl (fun _ => rfl) ?_
                refine RG_off rfl rfl (fun _ => rfl) ?_
                refine RG_off rfl rfl (fun _ => rfl) ?_
                refine RG_off rfl rfl (fun _ => rfl) ?_
                refine RG_off rfl rfl (fun _ => rfl) ?_
                refine RG_nil ?_
                refine RG_endv rfl (fun vs => by simp only [endE, List.cons_append, List.nil_append] <;> rfl) (fun vs => rfl) ?_
                refine WL_off rfl rfl rfl ?_
                refine WL_off rfl rfl rfl ?_
                refine WL_is (X_pick_t rfl rfl rfl) rfl rfl rfl ?_
                (repeat (first | refine WL_nil ?_ | refine Then_normal ?_ | refine W_seq ?_ | refine W_true rfl ?_))
                skip
                refine W_region rfl ?_
                refine WL_is (X_assign rfl rfl) rfl rfl rfl ?_
                (repeat (first | refine WL_nil ?_ | refine Then_normal ?_ | refine W_ret ?_ | refine Then_ret ?_ | refine inBlk_ret ?_))
                refine Body_end rfl rfl rfl (SubR.none _) ?_
                rw [allB_false hlt hgx]; simp
              | true =>
                rw [hvb] at c4 hgx
                skip
                refine W_draw0 16 rfl rfl rfl rfl ?_
                refine RG_val rfl rfl (fun _ => rfl) (fun _ => X_loadA rfl rfl (by exact idx0) rfl rfl rfl) ?_
                refine RG_val rfl rfl (fun _ => rfl) (fun _ => X_callv rfl rfl rfl Try.func40 rfl (by assumption)) ?_
                refine RG_val rfl rfl (fun _ => rfl) (fun _ => X_not rfl rfl) ?_
                refine RG_val rfl rfl (fun _ => rfl) (fun _ => X_move rfl rfl) ?_
                refine RG_val rfl rfl (fun _ => rfl) (fun _ => X_move rfl rfl) ?_
                refine RG_val rfl rfl (fun _ => rfl) (fun _ => X_gtr_f rfl rfl rfl (by omega)) ?_
                refine RG_val rfl rfl (fun _ => rfl) (fun _ => X_move rfl rfl) ?_
                refine RG_off rfl rfl (fun _ => rfl) ?_
                refine RG_off rfl rfl (fun _ => rfl) ?_
                refine RG_off rfl rfl (fun _ => rfl) ?_
                refine RG_off rfl rfl (fun _ => rfl) ?_
                refine RG_off rfl rfl (fun _ => rfl) ?_
                refine RG_off rfl rfl (fun _ => rfl) ?_
                refine RG_off rfl rfl (fun _ => rfl) ?_
                refine RG_off rfl rfl (fun _ => rfl) ?_
                refine RG_off rfl rfl (fun _ => rfl) ?_
                refine RG_nil ?_
                refine RG_endv rfl (fun vs => by simp only [endE, List.cons_append, List.nil_append] <;> rfl) (fun vs => rfl) ?_
                refine WL_off rfl rfl rfl ?_
                refine WL_is (X_pick_f rfl rfl rfl) rfl rfl rfl ?_
                refine WL_is (X_pick_f rfl rfl rfl) rfl rfl rfl ?_
                (repeat (first | refine WL_nil ?_ | refine Then_normal ?_ | refine W_skip ?_ | refine inBlk_normal ?_ | refine W_false rfl ?_))
                skip
                refine W_region rfl ?_
                refine WL_is (X_addW rfl rfl rfl (by exact wrap_i64_in (by omega) (by omega))) rfl rfl rfl ?_
                refine WL_is (X_move rfl rfl) rfl rfl rfl ?_
                (repeat (first | refine WL_nil ?_ | refine Then_normal ?_))
                refine ⟨0 + 1, ⟨(by repeat (first | exact SubE_nil | refine SubE_cons rfl ?_)), rfl, SubR.skip _ (SubR.refl _), rfl⟩, ⟨by omega, fun j hj => ?_⟩, by omega⟩
                have : j = 0 := by omega
                subst this; exact hgx
            · obtain ⟨j, rfl⟩ : ∃ j, k = j + 1 := ⟨k - 1, by omega⟩
              have hgx := goodX_s hlt
              have hj1 : j < a.xs.length := by omega
              cases hvb : valB a.xs[j + 1] with
              | false =>
                rw [hvb] at c4 hgx
                skip
                refine W_draw0 16 rfl rfl rfl rfl ?_
                refine RG_val rfl rfl (fun _ => rfl) (fun _ => X_loadA rfl rfl (by exact idx0) rfl rfl rfl) ?_
                refine RG_val rfl rfl (fun _ => rfl) (fun _ => X_callv rfl rfl rfl Try.func40 rfl (by assumption)) ?_
                refine RG_val rfl rfl (fun _ => rfl) (fun _ => X_not rfl rfl) ?_
                refine RG_val rfl rfl (fun _ => rfl) (fun _ => X_move rfl rfl) ?_
                refine RG_off rfl rfl (fun _ => rfl) ?_
                refine RG_off rfl rfl (fun _ => rfl) ?_
                refine RG_off rfl rfl (fun _ => rfl) ?_
                refine RG_off rfl rfl (fun _ => rfl) ?_
                refine RG_off rfl rfl (fun _ => rfl) ?_
                refine RG_off rfl rfl (fun _ => rfl) ?_
                refine RG_off rfl rfl (fun _ => rfl) ?_
                refine RG_off rfl rfl (fun _ => rfl) ?_
                refine RG_off rfl rfl (fun _ => rfl) ?_
                refine RG_off rfl rfl (fun _ => rfl) ?_
                refine RG_off rfl rfl (fun _ => rfl) ?_
                refine RG_off rfl rfl (fun _ => rfl) ?_
                refine RG_nil ?_
                refine RG_endv rfl (fun vs => by simp only [endE, List.cons_append, List.nil_append] <;> rfl) (fun vs => rfl) ?_
                refine WL_off rfl rfl rfl ?_
                refine WL_off rfl rfl rfl ?_
                refine WL_is (X_pick_t rfl rfl rfl) rfl rfl rfl ?_
                (repeat (first | refine WL_nil ?_ | refine Then_normal ?_ | refine W_seq ?_ | refine W_true rfl ?_))
                skip
                refine W_region rfl ?_
                refine WL_is (X_assign rfl rfl) rfl rfl rfl ?_
                (repeat (first | refine WL_nil ?_ | refine Then_normal ?_ | refine W_ret ?_ | refine Then_ret ?_ | refine inBlk_ret ?_))
                refine Body_end rfl rfl rfl (SubR.none _) ?_
                rw [allB_false hlt hgx]; simp
              | true =>
                rw [hvb] at c4 hgx
                cases hge : strGe a.xs[j].1 a.xs[j + 1].1 with
                | true =>
                  rw [hge] at hgx
                  skip
                  refine W_draw0 16 rfl rfl rfl rfl ?_
                  refine RG_val rfl rfl (fun _ => rfl) (fun _ => X_loadA rfl rfl (by exact idx0) rfl rfl rfl) ?_
                  refine RG_val rfl rfl (fun _ => rfl) (fun _ => X_callv rfl rfl rfl Try.func40 rfl (by assumption)) ?_
                  refine RG_val rfl rfl (fun _ => rfl) (fun _ => X_not rfl rfl) ?_
                  refine RG_val rfl rfl (fun _ => rfl) (fun _ => X_move rfl rfl) ?_
                  refine RG_val rfl rfl (fun _ => rfl) (fun _ => X_move rfl rfl) ?_
                  refine RG_val rfl rfl (fun _ => rfl) (fun _ => X_gtr_t rfl rfl rfl (by omega)) ?_
                  refine RG_val rfl rfl (fun _ => rfl) (fun _ => X_move rfl rfl) ?_
                  refine RG_val rfl rfl (fun _ => rfl) (fun _ => X_fieldAddr rfl rfl rfl (by simp only [Nat.zero_add] <;> rfl)) ?_
                  refine RG_val rfl rfl (fun _ => rfl) (fun _ => X_load1 rfl rfl (by exact idx1) rfl rfl) ?_
                  refine RG_val rfl rfl (fun _ => rfl) (fun _ => X_move rfl rfl) ?_
                  refine RG_val rfl rfl (fun _ => rfl) (fun _ => X_subW (c := (j : Int)) rfl rfl rfl (by rw [wrap_i64_in] <;> omega)) ?_
                  (refine RG_index_slN rfl rfl rfl (fun _ => rfl) (fun _ => rfl) (by assumption) (by omega) rfl rfl (fun _ => rfl) ?_; intro p_ hp_)
                  (refine RG_fieldAddr_at rfl (fun _ => rfl) (by assumption) rfl rfl rfl (fun _ => rfl) ?_; intro p_ hp_)
                  refine RG_val rfl rfl (fun _ => rfl) (fun _ => X_load1_at rfl rfl (by assumption) rfl rfl) ?_
                  refine RG_val rfl rfl (fun _ => rfl) (fun _ => X_fieldAddr rfl rfl rfl (by simp only [Nat.zero_add] <;> rfl)) ?_
                  refine RG_val rfl rfl (fun _ => rfl) (fun _ => X_load1 rfl rfl (by exact idx0) rfl rfl) ?_
                  refine RG_nil ?_
                  refine RG_endv rfl (fun vs => by simp only [endE, List.cons_append, List.nil_append] <;> rfl) (fun vs => rfl) ?_
                  refine WL_is (X_geS_c rfl rfl rfl (by assumption)) rfl rfl rfl ?_
                  refine WL_is (X_pick_t rfl rfl rfl) rfl rfl rfl ?_
                  refine WL_is (X_pick_f rfl rfl rfl) rfl rfl rfl ?_
                  (repeat (first | refine WL_nil ?_ | refine Then_normal ?_ | refine W_seq ?_ | refine W_true rfl ?_))
                  skip
                  refine W_region rfl ?_
                  refine WL_is (X_assign rfl rfl) rfl rfl rfl ?_
                  (repeat (first | refine WL_nil ?_ | refine Then_normal ?_ | refine W_ret ?_ | refine Then_ret ?_ | refine inBlk_ret ?_))
                  refine Body_end rfl rfl rfl (SubR.none _) ?_
                  rw [allB_false hlt hgx]; simp
                | false =>
                  rw [hge] at hgx
                  skip
                  refine W_draw0 16 rfl rfl rfl rfl ?_
                  refine RG_val rfl rfl (fun _ => rfl) (fun _ => X_loadA rfl rfl (by exact idx0) rfl rfl rfl) ?_
                  refine RG_val rfl rfl (fun _ => rfl) (fun _ => X_callv rfl rfl rfl Try.func40 rfl (by assumption)) ?_
                  refine RG_val rfl rfl (fun _ => rfl) (fun _ => X_not rfl rfl) ?_
                  refine RG_val rfl rfl (fun _ => rfl) (fun _ => X_move rfl rfl) ?_
                  refine RG_val rfl rfl (fun _ => rfl) (fun _ => X_move rfl rfl) ?_
                  refine RG_val rfl rfl (fun _ => rfl) (fun _ => X_gtr_t rfl rfl rfl (by omega)) ?_
                  refine RG_val rfl rfl (fun _ => rfl) (fun _ => X_move rfl rfl) ?_
                  refine RG_val rfl rfl (fun _ => rfl) (fun _ => X_fieldAddr rfl rfl rfl (by simp only [Nat.zero_add] <;> rfl)) ?_
                  refine RG_val rfl rfl (fun _ => rfl) (fun _ => X_load1 rfl rfl (by exact idx1) rfl rfl) ?_
                  refine RG_val rfl rfl (fun _ => rfl) (fun _ => X_move rfl rfl) ?_
                  refine RG_val rfl rfl (fun _ => rfl) (fun _ => X_subW (c := (j : Int)) rfl rfl rfl (by rw [wrap_i64_in] <;> omega)) ?_
                  (refine RG_index_slN rfl rfl rfl (fun _ => rfl) (fun _ => rfl) (by assumption) (by omega) rfl rfl (fun _ => rfl) ?_; intro p_ hp_)
                  (refine RG_fieldAddr_at rfl (fun _ => rfl) (by assumption) rfl rfl rfl (fun _ => rfl) ?_; intro p_ hp_)
                  refine RG_val rfl rfl (fun _ => rfl) (fun _ => X_load1_at rfl rfl (by assumption) rfl rfl) ?_
                  refine RG_val rfl rfl (fun _ => rfl) (fun _ => X_fieldAddr rfl rfl rfl (by simp only [Nat.zero_add] <;> rfl)) ?_
                  refine RG_val rfl rfl (fun _ => rfl) (fun _ => X_load1 rfl rfl (by exact idx0) rfl rfl) ?_
                  refine RG_nil ?_
                  refine RG_endv rfl (fun vs => by simp only [endE, List.cons_append, List.nil_append] <;> rfl) (fun vs => rfl) ?_
                  refine WL_is (X_geS_c rfl rfl rfl (by assumption)) rfl rfl rfl ?_
                  refine WL_is (X_pick_t rfl rfl rfl) rfl rfl rfl ?_
                  refine WL_is (X_pick_f rfl rfl rfl) rfl rfl rfl ?_
                  (repeat (first | refine WL_nil ?_ | refine Then_normal ?_ | refine W_skip ?_ | refine inBlk_normal ?_ | refine W_false rfl ?_))
                  skip
                  refine W_region rfl ?_
                  refine WL_is (X_addW rfl rfl rfl (by exact wrap_i64_in (by omega) (by omega))) rfl rfl rfl ?_
                  refine WL_is (X_move rfl rfl) rfl rfl rfl ?_
                  (repeat (first | refine WL_nil ?_ | refine Then_normal ?_))
                  refine ⟨j + 1 + 1, ⟨(by repeat (first | exact SubE_nil | refine SubE_cons rfl ?_)), rfl, SubR.skip _ (SubR.refl _), rfl⟩, ⟨by omega, fun i hi => ?_⟩, by omega⟩
                  by_cases h1 : i < j + 1
                  · exact hgood i h1
                  · have : i = j + 1 := by omega
                    subst this; exact hgx
          · have hall := allX_true (l := a.xs) (fun j hj => hgood j (by omega))
            (repeat (first | refine W_seq ?_))
            refine W_region rfl ?_
            refine WL_is (X_lss_f rfl rfl rfl (by omega)) rfl rfl rfl ?_
            (repeat (first | refine WL_nil ?_ | refine Then_normal ?_ | refine W_seq ?_ | refine W_exit ?_ | refine Then_exit ?_ | refine inBlk_here ?_ | refine W_false rfl ?_))
            skip
            refine W_region rfl ?_
            refine WL_is (X_assign rfl rfl) rfl rfl rfl ?_
            (repeat (first | refine WL_nil ?_ | refine Then_normal ?_ | refine W_ret ?_))
            refine Body_end rfl rfl rfl (SubR.none _) ?_
            rw [hall]; simp [hb7, hx4]
        · (repeat (first | refine W_seq ?_))
          refine W_region rfl ?_
          refine WL_is (X_fieldAddr rfl rfl rfl (by simp only [Nat.zero_add] <;> rfl)) rfl rfl rfl ?_
          refine WL_is (X_load1 rfl rfl (by exact idx0) rfl rfl) rfl rfl rfl ?_
          refine WL_is (X_gtr_f rfl rfl rfl (by omega)) rfl rfl rfl ?_
          refine WL_is (X_move rfl rfl) rfl rfl rfl ?_
          refine WL_is (X_fieldAddr rfl rfl rfl (by simp only [Nat.zero_add] <;> rfl)) rfl rfl rfl ?_
          refine WL_is (X_loadA rfl rfl (by exact idx0) rfl rfl rfl) rfl rfl rfl ?_
          refine WL_is (X_callv rfl rfl rfl Try.func38 rfl (by assumption)) rfl rfl rfl ?_
          refine WL_is (X_neq_f rfl rfl rfl (by omega)) rfl rfl rfl ?_
          refine WL_is (X_pick_f rfl rfl rfl) rfl rfl rfl ?_
          refine WL_is (X_move rfl rfl) rfl rfl rfl ?_
          refine WL_is (X_move rfl rfl) rfl rfl rfl ?_
          refine WL_is (X_not rfl rfl) rfl rfl rfl ?_
          refine WL_is (X_pick_f rfl rfl rfl) rfl rfl rfl ?_
          refine WL_is (X_move rfl rfl) rfl rfl rfl ?_
          refine WL_is (X_fieldAddr rfl rfl rfl (by simp only [Nat.zero_add] <;> rfl)) rfl rfl rfl ?_
          refine WL_is (X_load1 rfl rfl (by exact idx0) rfl rfl) rfl rfl rfl ?_
          refine WL_is (X_len_sl rfl rfl rfl (by assumption)) rfl rfl rfl ?_
          refine WL_is (X_gtr_t rfl rfl rfl (by omega)) rfl rfl rfl ?_
          refine WL_is (X_pick_f rfl rfl rfl) rfl rfl rfl ?_
          (repeat (first | refine WL_nil ?_ | refine Then_normal ?_ | refine W_seq ?_ | refine W_true rfl ?_))
          skip
          refine W_region rfl ?_
          refine WL_is (X_assign rfl rfl) rfl rfl rfl ?_
          (repeat (first | refine WL_nil ?_ | refine Then_normal ?_ | refine W_ret ?_ | refine Then_ret ?_))
          refine Body_end rfl rfl rfl (SubR.none _) ?_
          simp [hx4]
  · (repeat (first | refine W_seq ?_))
    refine W_region rfl ?_
    refine WL_is (X_fieldAddr rfl rfl rfl (by simp only [Nat.zero_add] <;> rfl)) rfl rfl rfl ?_
    refine WL_is (X_load1 rfl rfl (by exact idx0) rfl rfl) rfl rfl rfl ?_
    refine WL_is (X_gtr_t rfl rfl rfl (by omega)) rfl rfl rfl ?_
    refine WL_is (X_move rfl rfl) rfl rfl rfl ?_
    refine WL_off rfl rfl rfl ?_
    refine WL_off rfl rfl rfl ?_
    refine WL_off rfl rfl rfl ?_
    refine WL_off rfl rfl rfl ?_
    refine WL_is (X_pick_t rfl rfl rfl) rfl rfl rfl ?_
    refine WL_is (X_move rfl rfl) rfl rfl rfl ?_
    refine WL_off rfl rfl rfl ?_
    refine WL_off rfl rfl rfl ?_
    refine WL_is (X_pick_t rfl rfl rfl) rfl rfl rfl ?_
    refine WL_is (X_move rfl rfl) rfl rfl rfl ?_
    refine WL_off rfl rfl rfl ?_
    refine WL_off rfl rfl rfl ?_
    refine WL_off rfl rfl rfl ?_
    refine WL_off rfl rfl rfl ?_
    refine WL_is (X_pick_t rfl rfl rfl) rfl rfl rfl ?_
    (repeat (first | refine WL_nil ?_ | refine Then_normal ?_ | refine W_seq ?_ | refine W_true rfl ?_))
    skip
    refine W_region rfl ?_
    refine WL_is (X_assign rfl rfl) rfl rfl rfl ?_
    (repeat (first | refine WL_nil ?_ | refine Then_normal ?_ | refine W_ret ?_ | refine Then_ret ?_))
    refine Body_end rfl rfl rfl (SubR.none _) ?_
    simp [hb7]
end Go.Proofs.Ytakdjabamjgcfaa
