/- Who may do what: what is granted, and all that is. -/
import Derived.Test.YtjampjbhaekjbaaGrantC
namespace Go.Proofs.Ytjampjbhaekjbaa
open Go Go.Par PH
def mayP (c : Cred) (a : Attr) (dir : Bool) (want : Int) : Bool := decide (c.gs.length ≤ 4) && a.may && decide (want ≤ 7) && (choicesP c a dir).any fun p => hasP p want
def mostStep (c : Cred) (a : Attr) (dir : Bool) (n p : Int) : Int := if mayP c a dir p then bits .or .u8 n p else n
def mostP (c : Cred) (a : Attr) (dir : Bool) : Int := [4, 2, 1].foldl (mostStep c a dir) 0
theorem choicesP_len {c : Cred} {a : Attr} {dir : Bool} (h : a.acc.gs.length ≤ 1000) : (choicesP c a dir).length ≤ 1001 := by
  have := groupsP_len c a
  unfold choicesP
  split
  · split <;> simp
  · split
    · simp
    · split
      · simp
      · split
        · simp
        · simp; omega
structure Tame (c : Cred) (a : Attr) : Prop where
  a : a.tame
  c : c.gs.length ≤ 60
structure SX where
  k : Nat
  n : Int
attribute [local irreducible] W WL Does Exec Body Then inBlk RG WR row obj pblk
attribute [local irreducible] bits
theorem closM_fn (h : PH) (want : Int) (b : Nat) (hat : At h (.pointer (some ⟨b, 0, none⟩)) [.int .u8 want]) (y : Int) :
    Does Try.prog 25 [.int .u8 y, .pointer (some ⟨b, 0, none⟩)] [] h (Ret fun r _ _ => r = .bool (hasP y want)) := by
  refine Does_of_W Try.func25 rfl (n := 9) rfl rfl (by simp only [argE, Nat.reduceAdd] <;> rfl) ?_
  by_cases hh : bits .and .u8 y want = want
  · (repeat (first | refine W_seq ?_))
    skip
    refine W_region rfl ?_
    refine WL_is (X_assign rfl rfl) rfl rfl rfl ?_
    (repeat (first | refine WL_nil ?_ | refine Then_normal ?_ | refine W_seq ?_))
    skip
    refine W_region rfl ?_
    refine WL_is (X_move rfl rfl) rfl rfl rfl ?_
    refine WL_is (X_load1_at rfl rfl (by assumption) rfl rfl) rfl rfl rfl ?_
    refine WL_is (X_and rfl rfl rfl) rfl rfl rfl ?_
    refine WL_is (X_load1_at rfl rfl (by assumption) rfl rfl) rfl rfl rfl ?_
    refine WL_is (X_eql_t rfl rfl rfl (by omega)) rfl rfl rfl ?_
    refine WL_is (X_assign rfl rfl) rfl rfl rfl ?_
    (repeat (first | refine WL_nil ?_ | refine Then_normal ?_ | refine W_ret ?_))
    refine Body_end rfl rfl rfl (SubR.none _) ?_
    unfold hasP; rw [decide_eq_true hh]
  · (repeat (first | refine W_seq ?_))
    skip
    refine W_region rfl ?_
    refine WL_is (X_assign rfl rfl) rfl rfl rfl ?_
    (repeat (first | refine WL_nil ?_ | refine Then_normal ?_ | refine W_seq ?_))
    skip
    refine W_region rfl ?_
    refine WL_is (X_move rfl rfl) rfl rfl rfl ?_
    refine WL_is (X_load1_at rfl rfl (by assumption) rfl rfl) rfl rfl rfl ?_
    refine WL_is (X_and rfl rfl rfl) rfl rfl rfl ?_
    refine WL_is (X_load1_at rfl rfl (by assumption) rfl rfl) rfl rfl rfl ?_
    refine WL_is (X_eql_f rfl rfl rfl (by omega)) rfl rfl rfl ?_
    refine WL_is (X_assign rfl rfl) rfl rfl rfl ?_
    (repeat (first | refine WL_nil ?_ | refine Then_normal ?_ | refine W_ret ?_))
    refine Body_end rfl rfl rfl (SubR.none _) ?_
    unfold hasP; rw [decide_eq_false hh]
set_option maxHeartbeats 2000000 in
theorem may_fn (h : PH) (c : Cred) (cv : Value) (a : Attr) (v : Value) (dir : Bool) (want : Int) (hc : CredV h cv c) (hv : AttrV h v a) (hs : a.small) (hok : a.Ok) (hcl : c.gs.length ≤ 1000) :
    Does Try.prog 13 [cv, v, .bool dir, .int .u8 want] [] h (Ret fun r _ _ => r = .bool (mayP c a dir want)) := by
  have hc' := hc
  have hv' := hv
  have c1 := fun h' (hl : le h h') => credCheck_fn h' c cv (hc.mono hl)
  have c2 := fun h' (hl : le h h') => attrCheck_fn h' a v (hv.mono hl) hs hok
  obtain ⟨x, rfl, hx⟩ := hc
  obtain ⟨u, g, u2, g2, xv, rfl, h1, h2, h3, h4, h5⟩ := hv
  unfold credV at c1
  unfold attrV at c2
  unfold credV attrV mayP
  refine Does_of_W Try.func13 rfl (n := 27) rfl rfl (by simp only [argE, Nat.reduceAdd] <;> rfl) ?_
  (repeat (first | refine W_seq ?_))
  refine W_region rfl ?_
  (refine WL_box rfl rfl rfl rfl rfl rfl ?_; intro b_)
  (refine WL_box rfl rfl rfl rfl rfl rfl ?_; intro b_)
  rename_i cb
  generalize b_ = ab
  (refine WL_box rfl rfl rfl rfl rfl rfl ?_; intro b_)
  refine WL_is (X_assign rfl rfl) rfl rfl rfl ?_
  (repeat (first | refine WL_nil ?_ | refine Then_normal ?_ | refine W_seq ?_))
  generalize b_ = wb
  refine W_updE (UpdE.freeze 0 rfl) ?_
  rintro _ H1 L1 ⟨rfl, hb⟩
  have hat := At.of_blk hb
  simp only [List.eraseIdx_cons_zero]
  have c1 := c1 H1 L1
  have c2 := c2 H1 L1
  by_cases k1 : c.gs.length ≤ 4
  · rw [if_pos k1] at c1
    cases k2 : a.may with
    | false =>
      rw [k2] at c2
      skip
      refine W_region rfl ?_
      refine WL_is (X_loadA rfl rfl (by exact idx1) rfl rfl rfl) rfl rfl rfl ?_
      refine WL_is (X_callv rfl rfl rfl Try.func10 rfl (by assumption)) rfl rfl rfl ?_
      refine WL_is (X_neq_f rfl rfl rfl (by omega)) rfl rfl rfl ?_
      refine WL_is (X_move rfl rfl) rfl rfl rfl ?_
      refine WL_is (X_loadA rfl rfl (by exact idx0) rfl rfl rfl) rfl rfl rfl ?_
      refine WL_is (X_callv rfl rfl rfl Try.func22 rfl (by assumption)) rfl rfl rfl ?_
      refine WL_is (X_neq rfl rfl rfl) rfl rfl rfl ?_
      refine WL_is (X_pick_f rfl rfl rfl) rfl rfl rfl ?_
      refine WL_is (X_move rfl rfl) rfl rfl rfl ?_
      refine WL_off rfl rfl rfl ?_
      refine WL_off rfl rfl rfl ?_
      refine WL_is (X_pick_t rfl rfl rfl) rfl rfl rfl ?_
      (repeat (first | refine WL_nil ?_ | refine Then_normal ?_ | refine W_seq ?_ | refine W_true rfl ?_))
      skip
      refine W_region rfl ?_
      refine WL_is (X_assign rfl rfl) rfl rfl rfl ?_
      (repeat (first | refine WL_nil ?_ | refine Then_normal ?_ | refine W_ret ?_ | refine Then_ret ?_))
      refine Body_end rfl rfl rfl (SubR.none _) ?_
      simp
    | true =>
      rw [k2] at c2
      by_cases k3 : want ≤ 7
      · skip
        refine W_region rfl ?_
        refine WL_is (X_loadA rfl rfl (by exact idx1) rfl rfl rfl) rfl rfl rfl ?_
        refine WL_is (X_callv rfl rfl rfl Try.func10 rfl (by assumption)) rfl rfl rfl ?_
        refine WL_is (X_neq_f rfl rfl rfl (by omega)) rfl rfl rfl ?_
        refine WL_is (X_move rfl rfl) rfl rfl rfl ?_
        refine WL_is (X_loadA rfl rfl (by exact idx0) rfl rfl rfl) rfl rfl rfl ?_
        refine WL_is (X_callv rfl rfl rfl Try.func22 rfl (by assumption)) rfl rfl rfl ?_
        refine WL_is (X_neq rfl rfl rfl) rfl rfl rfl ?_
        refine WL_is (X_pick_f rfl rfl rfl) rfl rfl rfl ?_
        refine WL_is (X_move rfl rfl) rfl rfl rfl ?_
        refine WL_is (X_load1_at rfl rfl (by assumption) rfl rfl) rfl rfl rfl ?_
        refine WL_is (X_gtr_f rfl rfl rfl (by omega)) rfl rfl rfl ?_
        refine WL_is (X_pick_f rfl rfl rfl) rfl rfl rfl ?_
        (repeat (first | refine WL_nil ?_ | refine Then_normal ?_ | refine W_seq ?_ | refine W_skip ?_ | refine W_false rfl ?_))
        skip
        refine W_region rfl ?_
        refine WL_is (X_loadA rfl rfl (by exact idx1) rfl rfl rfl) rfl rfl rfl ?_
        refine WL_is (X_loadA rfl rfl (by exact idx0) rfl rfl rfl) rfl rfl rfl ?_
        refine WL_is (X_move rfl rfl) rfl rfl rfl ?_
        refine WL_call rfl rfl rfl Try.func24 rfl rfl rfl rfl (choices_fn H1 c _ a _ dir (hc'.mono L1) (hv'.mono L1) hs hcl) ?_
        rintro r _ H2 L2 ⟨hr, rfl⟩
        simp only [List.nil_append]
        obtain ⟨ra, rc, rfl⟩ := hr.shape
        refine WL_is (X_makeFunc rfl rfl rfl) rfl rfl rfl ?_
        have cl := choicesP_len (c := c) (dir := dir) hs.acc.2
        refine WL_is (X_callv rfl rfl rfl Try.func23 rfl (containsFuncB_fn H2 _ _ hr (by omega) 25 _ [.pointer (some ⟨wb, 0, none⟩)] (fun p => hasP p want) Try.func25 rfl (fun i hi h' hl' => closM_fn h' want wb (hat.mono (L2.trans hl')) _))) rfl rfl rfl ?_
        refine WL_is (X_assign rfl rfl) rfl rfl rfl ?_
        (repeat (first | refine WL_nil ?_ | refine Then_normal ?_ | refine W_ret ?_))
        refine Body_end rfl rfl rfl (SubR.none _) ?_
        simp [k1, k3]
      · skip
        refine W_region rfl ?_
        refine WL_is (X_loadA rfl rfl (by exact idx1) rfl rfl rfl) rfl rfl rfl ?_
        refine WL_is (X_callv rfl rfl rfl Try.func10 rfl (by assumption)) rfl rfl rfl ?_
        refine WL_is (X_neq_f rfl rfl rfl (by omega)) rfl rfl rfl ?_
        refine WL_is (X_move rfl rfl) rfl rfl rfl ?_
        refine WL_is (X_loadA rfl rfl (by exact idx0) rfl rfl rfl) rfl rfl rfl ?_
        refine WL_is (X_callv rfl rfl rfl Try.func22 rfl (by assumption)) rfl rfl rfl ?_
        refine WL_is (X_neq rfl rfl rfl) rfl rfl rfl ?_
        refine WL_is (X_pick_f rfl rfl rfl) rfl rfl rfl ?_
        refine WL_is (X_move rfl rfl) rfl rfl rfl ?_
        refine WL_is (X_load1_at rfl rfl (by assumption) rfl rfl) rfl rfl rfl ?_
        refine WL_is (X_gtr_t rfl rfl rfl (by omega)) rfl rfl rfl ?_
        refine WL_is (X_pick_f rfl rfl rfl) rfl rfl rfl ?_
        (repeat (first | refine WL_nil ?_ | refine Then_normal ?_ | refine W_seq ?_ | refine W_true rfl ?_))
        skip
        refine W_region rfl ?_
        refine WL_is (X_assign rfl rfl) rfl rfl rfl ?_
        (repeat (first | refine WL_nil ?_ | refine Then_normal ?_ | refine W_ret ?_ | refine Then_ret ?_))
        refine Body_end rfl rfl rfl (SubR.none _) ?_
        simp [k3]
  · rw [if_neg k1] at c1
    skip
    refine W_region rfl ?_
    refine WL_is (X_loadA rfl rfl (by exact idx1) rfl rfl rfl) rfl rfl rfl ?_
    refine WL_is (X_callv rfl rfl rfl Try.func10 rfl (by assumption)) rfl rfl rfl ?_
    refine WL_is (X_neq_t rfl rfl rfl (by omega)) rfl rfl rfl ?_
    refine WL_is (X_move rfl rfl) rfl rfl rfl ?_
    refine WL_off rfl rfl rfl ?_
    refine WL_off rfl rfl rfl ?_
    refine WL_off rfl rfl rfl ?_
    refine WL_is (X_pick_t rfl rfl rfl) rfl rfl rfl ?_
    refine WL_is (X_move rfl rfl) rfl rfl rfl ?_
    refine WL_off rfl rfl rfl ?_
    refine WL_off rfl rfl rfl ?_
    refine WL_is (X_pick_t rfl rfl rfl) rfl rfl rfl ?_
    (repeat (first | refine WL_nil ?_ | refine Then_normal ?_ | refine W_seq ?_ | refine W_true rfl ?_))
    skip
    refine W_region rfl ?_
    refine WL_is (X_assign rfl rfl) rfl rfl rfl ?_
    (repeat (first | refine WL_nil ?_ | refine Then_normal ?_ | refine W_ret ?_ | refine Then_ret ?_))
    refine Body_end rfl rfl rfl (SubR.none _) ?_
    simp [k1]
set_option maxHeartbeats 2000000 in
theorem most_fn (h : PH) (c : Cred) (cv : Value) (a : Attr) (v : Value) (dir : Bool) (hc : CredV h cv c) (hv : AttrV h v a) (hs : a.small) (hok : a.Ok) (hcl : c.gs.length ≤ 1000) :
    Does Try.prog 16 [cv, v, .bool dir] [] h (Ret fun r _ _ => r = .int .u8 (mostP c a dir)) := by
  have c1 := fun h' (hl : le h h') w => may_fn h' c cv a v dir w (hc.mono hl) (hv.mono hl) hs hok hcl
  obtain ⟨x, rfl, hx⟩ := hc
  obtain ⟨u, g, u2, g2, xv, rfl, h1, h2, h3, h4, h5⟩ := hv
  unfold credV attrV at c1
  unfold credV attrV
  refine Does_of_W Try.func16 rfl (n := 26) rfl rfl (by simp only [argE, Nat.reduceAdd] <;> rfl) ?_
  (repeat (first | refine W_seq ?_))
  refine W_region rfl ?_
  (refine WL_box rfl rfl rfl rfl rfl rfl ?_; intro b_)
  generalize b_ = cb
  (refine WL_box rfl rfl rfl rfl rfl rfl ?_; intro b_)
  generalize b_ = ab
  refine WL_is (X_assign rfl rfl) rfl rfl rfl ?_
  (repeat (first | refine WL_nil ?_ | refine Then_normal ?_ | refine W_seq ?_))
  skip
  refine W_region rfl ?_
  refine WL_is (X_assign rfl rfl) rfl rfl rfl ?_
  (repeat (first | refine WL_nil ?_ | refine Then_normal ?_ | refine W_seq ?_))
  skip
  refine W_region rfl ?_
  refine WL_buildSl (enc := encU8) [4, 2, 1] (lenB _) rfl rfl rfl rfl rfl rfl rfl rfl rfl rfl rfl rfl rfl rfl rfl ?_
  rintro vv H1 L1 hvv
  obtain ⟨va, vc, rfl⟩ := hvv.shape
  refine WL_is (X_len_sl rfl rfl rfl (by assumption)) rfl rfl rfl ?_
  refine WL_is (X_move rfl rfl) rfl rfl rfl ?_
  (repeat (first | refine WL_nil ?_ | refine Then_normal ?_ | refine W_block ?_))
  refine W_loop (X := SX) (L := fun x_ => ⟨[(12, .int .i64 (x_.k : Int)), (11, .int .i64 3), (10, .slice va ([4, 2, 1] : List Int).length vc), (7, .int .u8 x_.n), (3, .pointer (some ⟨cb, 0, none⟩)), (4, .pointer (some ⟨ab, 0, none⟩)), (2, .bool dir)], [], [blk ab (attrC a u g u2 g2 xv) 31, blk cb (credC c x) 25], H1⟩)
    (p := fun x_ => x_.k ≤ 3 ∧ x_.n = (([4, 2, 1] : List Int).take x_.k).foldl (mostStep c a dir) 0) (μ := fun x_ => 3 - x_.k) ⟨0, 0⟩ ⟨(by repeat (first | exact SubE_nil | refine SubE_cons rfl ?_)), rfl, SubR.refl _, rfl⟩ ⟨Nat.zero_le _, rfl⟩ ?_
  rintro ⟨k, n⟩ ⟨hk, hn⟩
  dsimp only at hk hn ⊢
  by_cases hlt : k < 3
  · have hkl : k < ([4, 2, 1] : List Int).length := hlt
    have c2 := c1 H1 L1 ([4, 2, 1] : List Int)[k]
    have hstep : (([4, 2, 1] : List Int).take (k + 1)).foldl (mostStep c a dir) 0 = mostStep c a dir n ([4, 2, 1] : List Int)[k] := by
      rw [List.take_succ_eq_append_getElem hkl, List.foldl_append, ← hn]; rfl
    unfold mostStep at hstep
    have hlen : ([4, 2, 1] : List Int).length = 3 := rfl
    cases hm : mayP c a dir ([4, 2, 1] : List Int)[k] with
    | true =>
      rw [hm] at c2 hstep
      rw [if_pos rfl] at hstep
      (repeat (first | refine W_seq ?_))
      refine W_region rfl ?_
      refine WL_is (X_lss_t rfl rfl rfl (by omega)) rfl rfl rfl ?_
      (repeat (first | refine WL_nil ?_ | refine Then_normal ?_ | refine W_seq ?_ | refine W_skip ?_ | refine W_block ?_ | refine W_true rfl ?_))
      skip
      refine W_region rfl ?_
      (refine WL_index_slN rfl rfl rfl rfl rfl (by assumption) (by omega) rfl rfl rfl ?_; intro p_ hp_)
      refine WL_is (X_load1_at rfl rfl (by assumption) rfl rfl) rfl rfl rfl ?_
      refine WL_is (X_assign rfl rfl) rfl rfl rfl ?_
      (repeat (first | refine WL_nil ?_ | refine Then_normal ?_ | refine W_seq ?_))
      skip
      refine W_region rfl ?_
      refine WL_is (X_loadA rfl rfl (by exact idx1) rfl rfl rfl) rfl rfl rfl ?_
      refine WL_is (X_loadA rfl rfl (by exact idx0) rfl rfl rfl) rfl rfl rfl ?_
      refine WL_is (X_move rfl rfl) rfl rfl rfl ?_
      refine WL_is (X_move rfl rfl) rfl rfl rfl ?_
      refine WL_is (X_callv rfl rfl rfl Try.func13 rfl (by assumption)) rfl rfl rfl ?_
      (repeat (first | refine WL_nil ?_ | refine Then_normal ?_ | refine W_true rfl ?_))
      skip
      refine W_region rfl ?_
      refine WL_is (X_move rfl rfl) rfl rfl rfl ?_
      refine WL_is (X_move rfl rfl) rfl rfl rfl ?_
      refine WL_is (X_or rfl rfl rfl) rfl rfl rfl ?_
      refine WL_is (X_assign rfl rfl) rfl rfl rfl ?_
      (repeat (first | refine WL_nil ?_ | refine Then_normal ?_ | refine inBlk_normal ?_))
      skip
      refine W_region rfl ?_
      refine WL_is (X_addW rfl rfl rfl (by exact wrap_i64_in (by omega) (by omega))) rfl rfl rfl ?_
      refine WL_is (X_move rfl rfl) rfl rfl rfl ?_
      (repeat (first | refine WL_nil ?_ | refine Then_normal ?_))
      exact ⟨⟨k + 1, _⟩, ⟨(by repeat (first | exact SubE_nil | refine SubE_cons rfl ?_)), rfl, SubR.refl _, rfl⟩, ⟨by dsimp only; omega, hstep.symm⟩, by dsimp only; omega⟩
    | false =>
      rw [hm] at c2 hstep
      rw [if_neg (by decide)] at hstep
      (repeat (first | refine W_seq ?_))
      refine W_region rfl ?_
      refine WL_is (X_lss_t rfl rfl rfl (by omega)) rfl rfl rfl ?_
      (repeat (first | refine WL_nil ?_ | refine Then_normal ?_ | refine W_seq ?_ | refine W_skip ?_ | refine W_block ?_ | refine W_true rfl ?_))
      skip
      refine W_region rfl ?_
      (refine WL_index_slN rfl rfl rfl rfl rfl (by assumption) (by omega) rfl rfl rfl ?_; intro p_ hp_)
      refine WL_is (X_load1_at rfl rfl (by assumption) rfl rfl) rfl rfl rfl ?_
      refine WL_is (X_assign rfl rfl) rfl rfl rfl ?_
      (repeat (first | refine WL_nil ?_ | refine Then_normal ?_ | refine W_seq ?_))
      skip
      refine W_region rfl ?_
      refine WL_is (X_loadA rfl rfl (by exact idx1) rfl rfl rfl) rfl rfl rfl ?_
      refine WL_is (X_loadA rfl rfl (by exact idx0) rfl rfl rfl) rfl rfl rfl ?_
      refine WL_is (X_move rfl rfl) rfl rfl rfl ?_
      refine WL_is (X_move rfl rfl) rfl rfl rfl ?_
      refine WL_is (X_callv rfl rfl rfl Try.func13 rfl (by assumption)) rfl rfl rfl ?_
      (repeat (first | refine WL_nil ?_ | refine Then_normal ?_ | refine W_skip ?_ | refine inBlk_normal ?_ | refine W_false rfl ?_))
      skip
      refine W_region rfl ?_
      refine WL_is (X_addW rfl rfl rfl (by exact wrap_i64_in (by omega) (by omega))) rfl rfl rfl ?_
      refine WL_is (X_move rfl rfl) rfl rfl rfl ?_
      (repeat (first | refine WL_nil ?_ | refine Then_normal ?_))
      exact ⟨⟨k + 1, n⟩, ⟨(by repeat (first | exact SubE_nil | refine SubE_cons rfl ?_)), rfl, SubR.refl _, rfl⟩, ⟨by dsimp only; omega, hstep.symm⟩, by dsimp only; omega⟩
  · have hk3 : k = 3 := by omega
    subst hk3
    (repeat (first | refine W_seq ?_))
    refine W_region rfl ?_
    refine WL_is (X_lss_f rfl rfl rfl (by omega)) rfl rfl rfl ?_
    (repeat (first | refine WL_nil ?_ | refine Then_normal ?_ | refine W_seq ?_ | refine W_exit ?_ | refine Then_exit ?_ | refine inBlk_here ?_ | refine W_false rfl ?_))
    skip
    refine W_region rfl ?_
    refine WL_is (X_move rfl rfl) rfl rfl rfl ?_
    refine WL_is (X_assign rfl rfl) rfl rfl rfl ?_
    (repeat (first | refine WL_nil ?_ | refine Then_normal ?_ | refine W_ret ?_))
    refine Body_end rfl rfl rfl (SubR.none _) ?_
    rw [hn]; rfl
theorem large12_fn (h : PH) (c : Cred) (cv : Value) (a : Attr) (v : Value) (hc : CredV h cv c) (hv : AttrV h v a) : Does Try.prog 8 [cv, v] [] h (Ret fun r R' _ => (∃ b, r = .bool b ∧ (b = false → Tame c a)) ∧ R' = []) := by
  have c1 := attrLarge_ref h a v hv
  obtain ⟨x, rfl, hx⟩ := hc
  obtain ⟨u, g, u2, g2, xv, rfl, h1, h2, h3, h4, h5⟩ := hv
  obtain ⟨xa, xc, rfl⟩ := hx.shape
  unfold credV
  unfold attrV at c1 ⊢
  refine Does_of_W Try.func8 rfl (n := 13) rfl rfl (by simp only [argE, Nat.reduceAdd] <;> rfl) ?_
  (repeat (first | refine W_seq ?_))
  skip
  refine W_region rfl ?_
  (refine WL_box rfl rfl rfl rfl rfl rfl ?_; intro b_)
  (refine WL_box rfl rfl rfl rfl rfl rfl ?_; intro b_)
  refine WL_is (X_assign rfl rfl) rfl rfl rfl ?_
  (repeat (first | refine WL_nil ?_ | refine Then_normal ?_ | refine W_seq ?_))
  skip
  refine W_region rfl ?_
  refine WL_is (X_loadA rfl rfl (by exact idx0) rfl rfl rfl) rfl rfl rfl ?_
  refine WL_call rfl rfl rfl Try.func19 rfl rfl rfl rfl c1 ?_
  rintro _ _ H1 L1 ⟨⟨b, rfl, hb⟩, rfl⟩
  simp only [List.nil_append]
  cases b with
  | true =>
    refine WL_is (X_move rfl rfl) rfl rfl rfl ?_
    refine WL_off rfl rfl rfl ?_
    refine WL_off rfl rfl rfl ?_
    refine WL_off rfl rfl rfl ?_
    refine WL_off rfl rfl rfl ?_
    refine WL_is (X_pick_t rfl rfl rfl) rfl rfl rfl ?_
    refine WL_is (X_assign rfl rfl) rfl rfl rfl ?_
    (repeat (first | refine WL_nil ?_ | refine Then_normal ?_ | refine W_ret ?_))
    exact Body_end rfl rfl rfl (SubR.none _) ⟨⟨true, rfl, fun e => by cases e⟩, rfl⟩
  | false =>
    by_cases h60 : c.gs.length ≤ 60
    · refine WL_is (X_move rfl rfl) rfl rfl rfl ?_
      refine WL_is (X_fieldAddr rfl rfl rfl (by simp only [Nat.zero_add] <;> rfl)) rfl rfl rfl ?_
      refine WL_is (X_load1 rfl rfl (by exact idx1) rfl rfl) rfl rfl rfl ?_
      refine WL_is (X_len rfl rfl rfl) rfl rfl rfl ?_
      refine WL_is (X_gtr_f rfl rfl rfl (by omega)) rfl rfl rfl ?_
      refine WL_is (X_pick_f rfl rfl rfl) rfl rfl rfl ?_
      refine WL_is (X_assign rfl rfl) rfl rfl rfl ?_
      (repeat (first | refine WL_nil ?_ | refine Then_normal ?_ | refine W_ret ?_))
      exact Body_end rfl rfl rfl (SubR.none _) ⟨⟨_, rfl, fun _ => ⟨hb rfl, h60⟩⟩, rfl⟩
    · refine WL_is (X_move rfl rfl) rfl rfl rfl ?_
      refine WL_is (X_fieldAddr rfl rfl rfl (by simp only [Nat.zero_add] <;> rfl)) rfl rfl rfl ?_
      refine WL_is (X_load1 rfl rfl (by exact idx1) rfl rfl) rfl rfl rfl ?_
      refine WL_is (X_len rfl rfl rfl) rfl rfl rfl ?_
      refine WL_is (X_gtr_t rfl rfl rfl (by omega)) rfl rfl rfl ?_
      refine WL_is (X_pick_f rfl rfl rfl) rfl rfl rfl ?_
      refine WL_is (X_assign rfl rfl) rfl rfl rfl ?_
      (repeat (first | refine WL_nil ?_ | refine Then_normal ?_ | refine W_ret ?_))
      exact Body_end rfl rfl rfl (SubR.none _) ⟨⟨true, rfl, fun e => by cases e⟩, rfl⟩
end Go.Proofs.Ytjampjbhaekjbaa
