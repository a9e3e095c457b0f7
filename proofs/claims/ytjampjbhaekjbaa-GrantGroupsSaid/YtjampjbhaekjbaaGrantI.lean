/- Who may do what: what may be by the document, the most by the document, and the examples. -/
import Derived.Test.YtjampjbhaekjbaaGrantF
import Derived.Test.YtjampjbhaekjbaaGrantH
namespace Go.Proofs.Ytjampjbhaekjbaa
open Go Go.Par PH
/-- A value of attributes, its slices told. -/
def attrS (a : Attr) (a1 a2 a3 a4 a5 : Option Addr) (c1 c2 c3 c4 c5 : Nat) : Value :=
  attrV a (.slice a1 a.acc.us.length c1) (.slice a2 a.acc.gs.length c2) (.slice a3 a.df.us.length c3) (.slice a4 a.df.gs.length c4) (.slice a5 a.xs.length c5)
theorem AttrV.shape {h : PH} {v : Value} {a : Attr} (hv : AttrV h v a) : ∃ a1 a2 a3 a4 a5 c1 c2 c3 c4 c5, v = attrS a a1 a2 a3 a4 a5 c1 c2 c3 c4 c5 := by
  obtain ⟨u, g, u2, g2, x, rfl, h1, h2, h3, h4, h5⟩ := hv
  obtain ⟨_, _, rfl⟩ := h1.shape
  obtain ⟨_, _, rfl⟩ := h2.shape
  obtain ⟨_, _, rfl⟩ := h3.shape
  obtain ⟨_, _, rfl⟩ := h4.shape
  obtain ⟨_, _, rfl⟩ := h5.shape
  exact ⟨_, _, _, _, _, _, _, _, _, _, rfl⟩
structure IX where
  k : Int
  n : Int
attribute [local irreducible] W WL Does Exec Body Then inBlk RG WR row obj pblk
attribute [local irreducible] bits
set_option maxHeartbeats 2000000 in
theorem mayR_ref (h : PH) (c : Cred) (cv : Value) (a : Attr) (v : Value) (dir : Bool) (want : Int) (hc : CredV h cv c) (hv : AttrV h v a) (hs : a.small) (hok : a.Ok) (hcl : c.gs.length ≤ 1000) :
    Does Try.prog 15 [cv, v, .bool dir, .int .u8 want] [] h (Ret fun r _ _ => r = .bool (mayR c a dir want)) := by
  have c1 := attrMay_ref h a v hv hs hok
  have c2 := granted_ref h c cv a v dir want hc hv hs hcl
  obtain ⟨x, rfl, hx⟩ := hc
  obtain ⟨xa, xc, rfl⟩ := hx.shape
  obtain ⟨_, _, _, _, _, _, _, _, _, _, rfl⟩ := hv.shape
  unfold attrS attrV at c1
  unfold credV attrS attrV at c2
  unfold credV attrS attrV mayR
  refine Does_of_W Try.func15 rfl (n := 28) rfl rfl (by simp only [argE, Nat.reduceAdd] <;> rfl) ?_
  (repeat (first | refine W_seq ?_))
  refine W_region rfl ?_
  (refine WL_box rfl rfl rfl rfl rfl rfl ?_; intro b_)
  (refine WL_box rfl rfl rfl rfl rfl rfl ?_; intro b_)
  refine WL_is (X_assign rfl rfl) rfl rfl rfl ?_
  (repeat (first | refine WL_nil ?_ | refine Then_normal ?_ | refine W_seq ?_))
  by_cases k1 : c.gs.length ≤ 4
  · rw [decide_eq_true k1]
    cases k2 : a.may with
    | false =>
      rw [k2] at c1
      skip
      refine W_region rfl ?_
      refine WL_is (X_fieldAddr rfl rfl rfl (by simp only [Nat.zero_add] <;> rfl)) rfl rfl rfl ?_
      refine WL_is (X_load1 rfl rfl (by exact idx1) rfl rfl) rfl rfl rfl ?_
      refine WL_is (X_len_sl rfl rfl rfl (by assumption)) rfl rfl rfl ?_
      refine WL_is (X_leq_t rfl rfl rfl (by omega)) rfl rfl rfl ?_
      refine WL_is (X_move rfl rfl) rfl rfl rfl ?_
      refine WL_is (X_loadA rfl rfl (by exact idx0) rfl rfl rfl) rfl rfl rfl ?_
      refine WL_is (X_callv rfl rfl rfl Try.func18 rfl (by assumption)) rfl rfl rfl ?_
      refine WL_is (X_pick_t rfl rfl rfl) rfl rfl rfl ?_
      refine WL_is (X_move rfl rfl) rfl rfl rfl ?_
      refine WL_off rfl rfl rfl ?_
      refine WL_off rfl rfl rfl ?_
      refine WL_is (X_pick_f rfl rfl rfl) rfl rfl rfl ?_
      refine WL_is (X_move rfl rfl) rfl rfl rfl ?_
      refine WL_off rfl rfl rfl ?_
      refine WL_off rfl rfl rfl ?_
      refine WL_off rfl rfl rfl ?_
      refine WL_off rfl rfl rfl ?_
      refine WL_off rfl rfl rfl ?_
      refine WL_is (X_pick_f rfl rfl rfl) rfl rfl rfl ?_
      refine WL_is (X_assign rfl rfl) rfl rfl rfl ?_
      (repeat (first | refine WL_nil ?_ | refine Then_normal ?_ | refine W_ret ?_))
      refine Body_end rfl rfl rfl (SubR.none _) ?_
      simp
    | true =>
      rw [k2] at c1
      by_cases k3 : want ≤ 7
      · rw [decide_eq_true k3]
        skip
        refine W_region rfl ?_
        refine WL_is (X_fieldAddr rfl rfl rfl (by simp only [Nat.zero_add] <;> rfl)) rfl rfl rfl ?_
        refine WL_is (X_load1 rfl rfl (by exact idx1) rfl rfl) rfl rfl rfl ?_
        refine WL_is (X_len_sl rfl rfl rfl (by assumption)) rfl rfl rfl ?_
        refine WL_is (X_leq_t rfl rfl rfl (by omega)) rfl rfl rfl ?_
        refine WL_is (X_move rfl rfl) rfl rfl rfl ?_
        refine WL_is (X_loadA rfl rfl (by exact idx0) rfl rfl rfl) rfl rfl rfl ?_
        refine WL_is (X_callv rfl rfl rfl Try.func18 rfl (by assumption)) rfl rfl rfl ?_
        refine WL_is (X_pick_t rfl rfl rfl) rfl rfl rfl ?_
        refine WL_is (X_move rfl rfl) rfl rfl rfl ?_
        refine WL_is (X_move rfl rfl) rfl rfl rfl ?_
        refine WL_is (X_leq_t rfl rfl rfl (by omega)) rfl rfl rfl ?_
        refine WL_is (X_pick_t rfl rfl rfl) rfl rfl rfl ?_
        refine WL_is (X_move rfl rfl) rfl rfl rfl ?_
        refine WL_is (X_loadA rfl rfl (by exact idx1) rfl rfl rfl) rfl rfl rfl ?_
        refine WL_is (X_loadA rfl rfl (by exact idx0) rfl rfl rfl) rfl rfl rfl ?_
        refine WL_is (X_move rfl rfl) rfl rfl rfl ?_
        refine WL_is (X_move rfl rfl) rfl rfl rfl ?_
        refine WL_is (X_callv rfl rfl rfl Try.func27 rfl (by assumption)) rfl rfl rfl ?_
        refine WL_is (X_pick_t rfl rfl rfl) rfl rfl rfl ?_
        refine WL_is (X_assign rfl rfl) rfl rfl rfl ?_
        (repeat (first | refine WL_nil ?_ | refine Then_normal ?_ | refine W_ret ?_))
        refine Body_end rfl rfl rfl (SubR.none _) ?_
        simp
      · rw [decide_eq_false k3]
        skip
        refine W_region rfl ?_
        refine WL_is (X_fieldAddr rfl rfl rfl (by simp only [Nat.zero_add] <;> rfl)) rfl rfl rfl ?_
        refine WL_is (X_load1 rfl rfl (by exact idx1) rfl rfl) rfl rfl rfl ?_
        refine WL_is (X_len_sl rfl rfl rfl (by assumption)) rfl rfl rfl ?_
        refine WL_is (X_leq_t rfl rfl rfl (by omega)) rfl rfl rfl ?_
        refine WL_is (X_move rfl rfl) rfl rfl rfl ?_
        refine WL_is (X_loadA rfl rfl (by exact idx0) rfl rfl rfl) rfl rfl rfl ?_
        refine WL_is (X_callv rfl rfl rfl Try.func18 rfl (by assumption)) rfl rfl rfl ?_
        refine WL_is (X_pick_t rfl rfl rfl) rfl rfl rfl ?_
        refine WL_is (X_move rfl rfl) rfl rfl rfl ?_
        refine WL_is (X_move rfl rfl) rfl rfl rfl ?_
        refine WL_is (X_leq_f rfl rfl rfl (by omega)) rfl rfl rfl ?_
        refine WL_is (X_pick_t rfl rfl rfl) rfl rfl rfl ?_
        refine WL_is (X_move rfl rfl) rfl rfl rfl ?_
        refine WL_off rfl rfl rfl ?_
        refine WL_off rfl rfl rfl ?_
        refine WL_off rfl rfl rfl ?_
        refine WL_off rfl rfl rfl ?_
        refine WL_off rfl rfl rfl ?_
        refine WL_is (X_pick_f rfl rfl rfl) rfl rfl rfl ?_
        refine WL_is (X_assign rfl rfl) rfl rfl rfl ?_
        (repeat (first | refine WL_nil ?_ | refine Then_normal ?_ | refine W_ret ?_))
        refine Body_end rfl rfl rfl (SubR.none _) ?_
        simp
  · rw [decide_eq_false k1]
    skip
    refine W_region rfl ?_
    refine WL_is (X_fieldAddr rfl rfl rfl (by simp only [Nat.zero_add] <;> rfl)) rfl rfl rfl ?_
    refine WL_is (X_load1 rfl rfl (by exact idx1) rfl rfl) rfl rfl rfl ?_
    refine WL_is (X_len_sl rfl rfl rfl (by assumption)) rfl rfl rfl ?_
    refine WL_is (X_leq_f rfl rfl rfl (by omega)) rfl rfl rfl ?_
    refine WL_is (X_move rfl rfl) rfl rfl rfl ?_
    refine WL_off rfl rfl rfl ?_
    refine WL_off rfl rfl rfl ?_
    refine WL_is (X_pick_f rfl rfl rfl) rfl rfl rfl ?_
    refine WL_is (X_move rfl rfl) rfl rfl rfl ?_
    refine WL_off rfl rfl rfl ?_
    refine WL_off rfl rfl rfl ?_
    refine WL_is (X_pick_f rfl rfl rfl) rfl rfl rfl ?_
    refine WL_is (X_move rfl rfl) rfl rfl rfl ?_
    refine WL_off rfl rfl rfl ?_
    refine WL_off rfl rfl rfl ?_
    refine WL_off rfl rfl rfl ?_
    refine WL_off rfl rfl rfl ?_
    refine WL_off rfl rfl rfl ?_
    refine WL_is (X_pick_f rfl rfl rfl) rfl rfl rfl ?_
    refine WL_is (X_assign rfl rfl) rfl rfl rfl ?_
    (repeat (first | refine WL_nil ?_ | refine Then_normal ?_ | refine W_ret ?_))
    refine Body_end rfl rfl rfl (SubR.none _) ?_
    simp
set_option maxHeartbeats 2000000 in
theorem mostR_ref (h : PH) (c : Cred) (cv : Value) (a : Attr) (v : Value) (dir : Bool) (hc : CredV h cv c) (hv : AttrV h v a) (hs : a.small) (hok : a.Ok) (hcl : c.gs.length ≤ 1000) :
    Does Try.prog 17 [cv, v, .bool dir] [] h (Ret fun r _ _ => r = .int .u8 (mostR c a dir)) := by
  have c1 := mayR_ref h c cv a v dir 1 hc hv hs hok hcl
  have c2 := mayR_ref h c cv a v dir 2 hc hv hs hok hcl
  have c4 := mayR_ref h c cv a v dir 4 hc hv hs hok hcl
  obtain ⟨x, rfl, hx⟩ := hc
  obtain ⟨u, g, u2, g2, xv, rfl, h1, h2, h3, h4, h5⟩ := hv
  unfold credV attrV at c1 c2 c4
  unfold credV attrV mostR
  generalize mayR c a dir 1 = f1 at *
  generalize mayR c a dir 2 = f2 at *
  generalize mayR c a dir 4 = f4 at *
  refine Does_of_W Try.func17 rfl (n := 26) rfl rfl (by simp only [argE, Nat.reduceAdd] <;> rfl) ?_
  (repeat (first | refine W_seq ?_))
  refine W_region rfl ?_
  (refine WL_box rfl rfl rfl rfl rfl rfl ?_; intro b_)
  generalize b_ = cb
  (refine WL_box rfl rfl rfl rfl rfl rfl ?_; intro b_)
  generalize b_ = ab
  refine WL_is (X_assign rfl rfl) rfl rfl rfl ?_
  (repeat (first | refine WL_nil ?_ | refine Then_normal ?_ | refine W_seq ?_))
  skip
  refine W_region rfl ?_
  refine WL_is (X_assign rfl rfl) rfl rfl rfl ?_
  (repeat (first | refine WL_nil ?_ | refine Then_normal ?_ | refine W_seq ?_))
  skip
  refine W_region rfl ?_
  refine WL_is (X_assign rfl rfl) rfl rfl rfl ?_
  (repeat (first | refine WL_nil ?_ | refine Then_normal ?_ | refine W_block ?_))
  refine W_loop (X := IX) (L := fun X => ⟨[(8, .int .i64 X.k), (7, .int .u8 X.n), (4, .pointer (some ⟨ab, 0, none⟩)), (3, .pointer (some ⟨cb, 0, none⟩)), (2, .bool dir)], [], [blk ab (attrC a u g u2 g2 xv) 31, blk cb (credC c x) 25], h⟩)
    (p := fun X => (X.k = 0 ∧ X.n = 0) ∨ (X.k = 1 ∧ X.n = (if f1 then 1 else 0)) ∨ (X.k = 2 ∧ X.n = (if f1 then 1 else 0) + (if f2 then 2 else 0)) ∨ (X.k = 3 ∧ X.n = (if f1 then 1 else 0) + (if f2 then 2 else 0) + (if f4 then 4 else 0))) (μ := fun X => (3 - X.k).toNat) ⟨0, 0⟩ ⟨(by repeat (first | exact SubE_nil | refine SubE_cons rfl ?_)), rfl, SubR.refl _, rfl⟩ (Or.inl ⟨rfl, rfl⟩) ?_
  rintro ⟨k, n⟩ hkn
  dsimp only at hkn ⊢
  rcases hkn with ⟨rfl, rfl⟩ | ⟨rfl, hn⟩ | ⟨rfl, hn⟩ | ⟨rfl, hn⟩
  · cases f1 with
    | true =>
      (repeat (first | refine W_seq ?_))
      refine W_region rfl ?_
      refine WL_is (X_move rfl rfl) rfl rfl rfl ?_
      refine WL_is (X_lss_t rfl rfl rfl (by omega)) rfl rfl rfl ?_
      (repeat (first | refine WL_nil ?_ | refine Then_normal ?_ | refine W_seq ?_ | refine W_skip ?_ | refine W_block ?_ | refine W_true rfl ?_))
      skip
      refine W_region rfl ?_
      refine WL_is (X_loadA rfl rfl (by exact idx1) rfl rfl rfl) rfl rfl rfl ?_
      refine WL_is (X_loadA rfl rfl (by exact idx0) rfl rfl rfl) rfl rfl rfl ?_
      refine WL_is (X_move rfl rfl) rfl rfl rfl ?_
      refine WL_is (X_move rfl rfl) rfl rfl rfl ?_
      refine WL_is (X_convW rfl rfl rfl rfl (by exact wrap_u64_in (by omega) (by omega))) rfl rfl rfl ?_
      refine WL_is (X_shlW (k := .u8) rfl rfl rfl (by omega) (by decide) (by simp only [Int.toNat_zero, Int.pow_zero, Int.reduceMul]; exact wrap_u8_in (by omega) (by omega))) rfl rfl rfl ?_
      refine WL_is (X_callv rfl rfl rfl Try.func15 rfl (by assumption)) rfl rfl rfl ?_
      (repeat (first | refine WL_nil ?_ | refine Then_normal ?_ | refine W_true rfl ?_))
      skip
      refine W_region rfl ?_
      refine WL_is (X_move rfl rfl) rfl rfl rfl ?_
      refine WL_is (X_move rfl rfl) rfl rfl rfl ?_
      refine WL_is (X_convW rfl rfl rfl rfl (by exact wrap_u64_in (by omega) (by omega))) rfl rfl rfl ?_
      refine WL_is (X_shlW (k := .u8) rfl rfl rfl (by omega) (by decide) (by simp only [Int.toNat_zero, Int.pow_zero, Int.reduceMul]; exact wrap_u8_in (by omega) (by omega))) rfl rfl rfl ?_
      refine WL_is (X_addW rfl rfl rfl (by exact wrap_u8_in (by omega) (by omega))) rfl rfl rfl ?_
      refine WL_is (X_assign rfl rfl) rfl rfl rfl ?_
      (repeat (first | refine WL_nil ?_ | refine Then_normal ?_ | refine inBlk_normal ?_))
      skip
      refine W_region rfl ?_
      refine WL_is (X_move rfl rfl) rfl rfl rfl ?_
      refine WL_is (X_addW rfl rfl rfl (by refine wrapL (by simp only [Int.reduceAdd] <;> rfl) ?_; decide)) rfl rfl rfl ?_
      refine WL_is (X_assign rfl rfl) rfl rfl rfl ?_
      (repeat (first | refine WL_nil ?_ | refine Then_normal ?_))
      exact ⟨⟨1, 1⟩, ⟨(by repeat (first | exact SubE_nil | refine SubE_cons rfl ?_)), rfl, SubR.refl _, rfl⟩, Or.inr (Or.inl ⟨rfl, rfl⟩), by dsimp only; omega⟩
    | false =>
      (repeat (first | refine W_seq ?_))
      refine W_region rfl ?_
      refine WL_is (X_move rfl rfl) rfl rfl rfl ?_
      refine WL_is (X_lss_t rfl rfl rfl (by omega)) rfl rfl rfl ?_
      (repeat (first | refine WL_nil ?_ | refine Then_normal ?_ | refine W_seq ?_ | refine W_skip ?_ | refine W_block ?_ | refine W_true rfl ?_))
      skip
      refine W_region rfl ?_
      refine WL_is (X_loadA rfl rfl (by exact idx1) rfl rfl rfl) rfl rfl rfl ?_
      refine WL_is (X_loadA rfl rfl (by exact idx0) rfl rfl rfl) rfl rfl rfl ?_
      refine WL_is (X_move rfl rfl) rfl rfl rfl ?_
      refine WL_is (X_move rfl rfl) rfl rfl rfl ?_
      refine WL_is (X_convW rfl rfl rfl rfl (by exact wrap_u64_in (by omega) (by omega))) rfl rfl rfl ?_
      refine WL_is (X_shlW (k := .u8) rfl rfl rfl (by omega) (by decide) (by simp only [Int.toNat_zero, Int.pow_zero, Int.reduceMul]; exact wrap_u8_in (by omega) (by omega))) rfl rfl rfl ?_
      refine WL_is (X_callv rfl rfl rfl Try.func15 rfl (by assumption)) rfl rfl rfl ?_
      (repeat (first | refine WL_nil ?_ | refine Then_normal ?_ | refine W_skip ?_ | refine inBlk_normal ?_ | refine W_false rfl ?_))
      skip
      refine W_region rfl ?_
      refine WL_is (X_move rfl rfl) rfl rfl rfl ?_
      refine WL_is (X_addW rfl rfl rfl (by refine wrapL (by simp only [Int.reduceAdd] <;> rfl) ?_; decide)) rfl rfl rfl ?_
      refine WL_is (X_assign rfl rfl) rfl rfl rfl ?_
      (repeat (first | refine WL_nil ?_ | refine Then_normal ?_))
      exact ⟨⟨1, 0⟩, ⟨(by repeat (first | exact SubE_nil | refine SubE_cons rfl ?_)), rfl, SubR.refl _, rfl⟩, Or.inr (Or.inl ⟨rfl, rfl⟩), by dsimp only; omega⟩
  · have hb : 0 ≤ n ∧ n ≤ 1 := by subst hn; split <;> omega
    cases f2 with
    | true =>
      (repeat (first | refine W_seq ?_))
      refine W_region rfl ?_
      refine WL_is (X_move rfl rfl) rfl rfl rfl ?_
      refine WL_is (X_lss_t rfl rfl rfl (by omega)) rfl rfl rfl ?_
      (repeat (first | refine WL_nil ?_ | refine Then_normal ?_ | refine W_seq ?_ | refine W_skip ?_ | refine W_block ?_ | refine W_true rfl ?_))
      skip
      refine W_region rfl ?_
      refine WL_is (X_loadA rfl rfl (by exact idx1) rfl rfl rfl) rfl rfl rfl ?_
      refine WL_is (X_loadA rfl rfl (by exact idx0) rfl rfl rfl) rfl rfl rfl ?_
      refine WL_is (X_move rfl rfl) rfl rfl rfl ?_
      refine WL_is (X_move rfl rfl) rfl rfl rfl ?_
      refine WL_is (X_convW rfl rfl rfl rfl (by exact wrap_u64_in (by omega) (by omega))) rfl rfl rfl ?_
      refine WL_is (X_shlW (k := .u8) rfl rfl rfl (by omega) (by decide) (by simp only [Int.toNat_one, Int.reducePow, Int.reduceMul]; exact wrap_u8_in (by omega) (by omega))) rfl rfl rfl ?_
      refine WL_is (X_callv rfl rfl rfl Try.func15 rfl (by assumption)) rfl rfl rfl ?_
      (repeat (first | refine WL_nil ?_ | refine Then_normal ?_ | refine W_true rfl ?_))
      skip
      refine W_region rfl ?_
      refine WL_is (X_move rfl rfl) rfl rfl rfl ?_
      refine WL_is (X_move rfl rfl) rfl rfl rfl ?_
      refine WL_is (X_convW rfl rfl rfl rfl (by exact wrap_u64_in (by omega) (by omega))) rfl rfl rfl ?_
      refine WL_is (X_shlW (k := .u8) rfl rfl rfl (by omega) (by decide) (by simp only [Int.toNat_one, Int.reducePow, Int.reduceMul]; exact wrap_u8_in (by omega) (by omega))) rfl rfl rfl ?_
      refine WL_is (X_addW rfl rfl rfl (by exact wrap_u8_in (by omega) (by omega))) rfl rfl rfl ?_
      refine WL_is (X_assign rfl rfl) rfl rfl rfl ?_
      (repeat (first | refine WL_nil ?_ | refine Then_normal ?_ | refine inBlk_normal ?_))
      skip
      refine W_region rfl ?_
      refine WL_is (X_move rfl rfl) rfl rfl rfl ?_
      refine WL_is (X_addW rfl rfl rfl (by refine wrapL (by simp only [Int.reduceAdd] <;> rfl) ?_; decide)) rfl rfl rfl ?_
      refine WL_is (X_assign rfl rfl) rfl rfl rfl ?_
      (repeat (first | refine WL_nil ?_ | refine Then_normal ?_))
      exact ⟨⟨2, n + 2⟩, ⟨(by repeat (first | exact SubE_nil | refine SubE_cons rfl ?_)), rfl, SubR.refl _, rfl⟩, Or.inr (Or.inr (Or.inl ⟨rfl, by rw [hn]; rfl⟩)), by dsimp only; omega⟩
    | false =>
      (repeat (first | refine W_seq ?_))
      refine W_region rfl ?_
      refine WL_is (X_move rfl rfl) rfl rfl rfl ?_
      refine WL_is (X_lss_t rfl rfl rfl (by omega)) rfl rfl rfl ?_
      (repeat (first | refine WL_nil ?_ | refine Then_normal ?_ | refine W_seq ?_ | refine W_skip ?_ | refine W_block ?_ | refine W_true rfl ?_))
      skip
      refine W_region rfl ?_
      refine WL_is (X_loadA rfl rfl (by exact idx1) rfl rfl rfl) rfl rfl rfl ?_
      refine WL_is (X_loadA rfl rfl (by exact idx0) rfl rfl rfl) rfl rfl rfl ?_
      refine WL_is (X_move rfl rfl) rfl rfl rfl ?_
      refine WL_is (X_move rfl rfl) rfl rfl rfl ?_
      refine WL_is (X_convW rfl rfl rfl rfl (by exact wrap_u64_in (by omega) (by omega))) rfl rfl rfl ?_
      refine WL_is (X_shlW (k := .u8) rfl rfl rfl (by omega) (by decide) (by simp only [Int.toNat_one, Int.reducePow, Int.reduceMul]; exact wrap_u8_in (by omega) (by omega))) rfl rfl rfl ?_
      refine WL_is (X_callv rfl rfl rfl Try.func15 rfl (by assumption)) rfl rfl rfl ?_
      (repeat (first | refine WL_nil ?_ | refine Then_normal ?_ | refine W_skip ?_ | refine inBlk_normal ?_ | refine W_false rfl ?_))
      skip
      refine W_region rfl ?_
      refine WL_is (X_move rfl rfl) rfl rfl rfl ?_
      refine WL_is (X_addW rfl rfl rfl (by refine wrapL (by simp only [Int.reduceAdd] <;> rfl) ?_; decide)) rfl rfl rfl ?_
      refine WL_is (X_assign rfl rfl) rfl rfl rfl ?_
      (repeat (first | refine WL_nil ?_ | refine Then_normal ?_))
      exact ⟨⟨2, n⟩, ⟨(by repeat (first | exact SubE_nil | refine SubE_cons rfl ?_)), rfl, SubR.refl _, rfl⟩, Or.inr (Or.inr (Or.inl ⟨rfl, by rw [hn]; simp⟩)), by dsimp only; omega⟩
  · have hb : 0 ≤ n ∧ n ≤ 3 := by subst hn; split <;> split <;> omega
    cases f4 with
    | true =>
      (repeat (first | refine W_seq ?_))
      refine W_region rfl ?_
      refine WL_is (X_move rfl rfl) rfl rfl rfl ?_
      refine WL_is (X_lss_t rfl rfl rfl (by omega)) rfl rfl rfl ?_
      (repeat (first | refine WL_nil ?_ | refine Then_normal ?_ | refine W_seq ?_ | refine W_skip ?_ | refine W_block ?_ | refine W_true rfl ?_))
      skip
      refine W_region rfl ?_
      refine WL_is (X_loadA rfl rfl (by exact idx1) rfl rfl rfl) rfl rfl rfl ?_
      refine WL_is (X_loadA rfl rfl (by exact idx0) rfl rfl rfl) rfl rfl rfl ?_
      refine WL_is (X_move rfl rfl) rfl rfl rfl ?_
      refine WL_is (X_move rfl rfl) rfl rfl rfl ?_
      refine WL_is (X_convW rfl rfl rfl rfl (by exact wrap_u64_in (by omega) (by omega))) rfl rfl rfl ?_
      refine WL_is (X_shlW (k := .u8) rfl rfl rfl (by omega) (by decide) (by simp only [Int.reduceToNat, Int.reducePow, Int.reduceMul]; exact wrap_u8_in (by omega) (by omega))) rfl rfl rfl ?_
      refine WL_is (X_callv rfl rfl rfl Try.func15 rfl (by assumption)) rfl rfl rfl ?_
      (repeat (first | refine WL_nil ?_ | refine Then_normal ?_ | refine W_true rfl ?_))
      skip
      refine W_region rfl ?_
      refine WL_is (X_move rfl rfl) rfl rfl rfl ?_
      refine WL_is (X_move rfl rfl) rfl rfl rfl ?_
      refine WL_is (X_convW rfl rfl rfl rfl (by exact wrap_u64_in (by omega) (by omega))) rfl rfl rfl ?_
      refine WL_is (X_shlW (k := .u8) rfl rfl rfl (by omega) (by decide) (by simp only [Int.reduceToNat, Int.reducePow, Int.reduceMul]; exact wrap_u8_in (by omega) (by omega))) rfl rfl rfl ?_
      refine WL_is (X_addW rfl rfl rfl (by exact wrap_u8_in (by omega) (by omega))) rfl rfl rfl ?_
      refine WL_is (X_assign rfl rfl) rfl rfl rfl ?_
      (repeat (first | refine WL_nil ?_ | refine Then_normal ?_ | refine inBlk_normal ?_))
      skip
      refine W_region rfl ?_
      refine WL_is (X_move rfl rfl) rfl rfl rfl ?_
      refine WL_is (X_addW rfl rfl rfl (by refine wrapL (by simp only [Int.reduceAdd] <;> rfl) ?_; decide)) rfl rfl rfl ?_
      refine WL_is (X_assign rfl rfl) rfl rfl rfl ?_
      (repeat (first | refine WL_nil ?_ | refine Then_normal ?_))
      exact ⟨⟨3, n + 4⟩, ⟨(by repeat (first | exact SubE_nil | refine SubE_cons rfl ?_)), rfl, SubR.refl _, rfl⟩, Or.inr (Or.inr (Or.inr ⟨rfl, by rw [hn]; rfl⟩)), by dsimp only; omega⟩
    | false =>
      (repeat (first | refine W_seq ?_))
      refine W_region rfl ?_
      refine WL_is (X_move rfl rfl) rfl rfl rfl ?_
      refine WL_is (X_lss_t rfl rfl rfl (by omega)) rfl rfl rfl ?_
      (repeat (first | refine WL_nil ?_ | refine Then_normal ?_ | refine W_seq ?_ | refine W_skip ?_ | refine W_block ?_ | refine W_true rfl ?_))
      skip
      refine W_region rfl ?_
      refine WL_is (X_loadA rfl rfl (by exact idx1) rfl rfl rfl) rfl rfl rfl ?_
      refine WL_is (X_loadA rfl rfl (by exact idx0) rfl rfl rfl) rfl rfl rfl ?_
      refine WL_is (X_move rfl rfl) rfl rfl rfl ?_
      refine WL_is (X_move rfl rfl) rfl rfl rfl ?_
      refine WL_is (X_convW rfl rfl rfl rfl (by exact wrap_u64_in (by omega) (by omega))) rfl rfl rfl ?_
      refine WL_is (X_shlW (k := .u8) rfl rfl rfl (by omega) (by decide) (by simp only [Int.reduceToNat, Int.reducePow, Int.reduceMul]; exact wrap_u8_in (by omega) (by omega))) rfl rfl rfl ?_
      refine WL_is (X_callv rfl rfl rfl Try.func15 rfl (by assumption)) rfl rfl rfl ?_
      (repeat (first | refine WL_nil ?_ | refine Then_normal ?_ | refine W_skip ?_ | refine inBlk_normal ?_ | refine W_false rfl ?_))
      skip
      refine W_region rfl ?_
      refine WL_is (X_move rfl rfl) rfl rfl rfl ?_
      refine WL_is (X_addW rfl rfl rfl (by refine wrapL (by simp only [Int.reduceAdd] <;> rfl) ?_; decide)) rfl rfl rfl ?_
      refine WL_is (X_assign rfl rfl) rfl rfl rfl ?_
      (repeat (first | refine WL_nil ?_ | refine Then_normal ?_))
      exact ⟨⟨3, n⟩, ⟨(by repeat (first | exact SubE_nil | refine SubE_cons rfl ?_)), rfl, SubR.refl _, rfl⟩, Or.inr (Or.inr (Or.inr ⟨rfl, by rw [hn]; simp⟩)), by dsimp only; omega⟩
  · (repeat (first | refine W_seq ?_))
    refine W_region rfl ?_
    refine WL_is (X_move rfl rfl) rfl rfl rfl ?_
    refine WL_is (X_lss_f rfl rfl rfl (by omega)) rfl rfl rfl ?_
    (repeat (first | refine WL_nil ?_ | refine Then_normal ?_ | refine W_seq ?_ | refine W_exit ?_ | refine Then_exit ?_ | refine inBlk_here ?_ | refine W_false rfl ?_))
    skip
    refine W_region rfl ?_
    refine WL_is (X_move rfl rfl) rfl rfl rfl ?_
    refine WL_is (X_assign rfl rfl) rfl rfl rfl ?_
    (repeat (first | refine WL_nil ?_ | refine Then_normal ?_ | refine W_ret ?_))
    refine Body_end rfl rfl rfl (SubR.none _) ?_
    rw [hn]
def smp : Attr := ⟨0, 1, 10, ⟨6, 4, 0, [(2, 7)], [(20, 4)], true, 4⟩, false, acl0, []⟩
theorem smp_small : smp.small := ⟨⟨by decide, by decide⟩, ⟨by decide, by decide⟩, by decide, fun x hx => by cases hx⟩
theorem smp_ok : smp.Ok := ⟨⟨by decide, by decide⟩, ⟨by decide, by decide⟩, ⟨by decide, by decide⟩, ⟨⟨by decide, by decide⟩, ⟨by decide, by decide⟩, ⟨by decide, by decide⟩, ⟨by decide, by decide⟩, by simp [smp, u16, u8], by simp [smp, u16, u8]⟩, ⟨⟨by decide, by decide⟩, ⟨by decide, by decide⟩, ⟨by decide, by decide⟩, ⟨by decide, by decide⟩, by simp [smp, acl0], by simp [smp, acl0]⟩⟩
set_option maxHeartbeats 1000000 in
theorem sample_fn (h : PH) : Does Try.prog 20 [] [] h (Ret fun r R' h' => AttrV h' r smp ∧ R' = []) := by
  refine Does_of_W Try.func20 rfl (n := 7) rfl rfl (by simp only [argE] <;> rfl) ?_
  (repeat (first | refine W_seq ?_))
  refine W_region rfl ?_
  (refine WL_alloc rfl rfl rfl rfl rfl rfl ?_; intro b_)
  (repeat (first | refine WL_nil ?_ | refine Then_normal ?_ | refine W_seq ?_))
  skip
  refine W_region rfl ?_
  refine WL_is (X_build rfl rfl rfl) rfl rfl rfl ?_
  generalize b_ = rb
  refine WL_buildSl (enc := encN) [(2, 7)] (fun _ _ => rfl) rfl rfl rfl rfl rfl rfl rfl rfl rfl rfl rfl rfl rfl rfl rfl ?_
  rintro vv H1 L1 hvv
  obtain ⟨va, vc, rfl⟩ := hvv.shape
  refine WL_is (X_build rfl rfl rfl) rfl rfl rfl ?_
  refine WL_buildSl (enc := encN) [(20, 4)] (fun _ _ => rfl) rfl rfl rfl rfl rfl rfl rfl rfl rfl rfl rfl rfl rfl rfl rfl ?_
  rintro ww H2 L2 hww
  obtain ⟨wa, wc, rfl⟩ := hww.shape
  refine WL_is (X_build rfl rfl rfl) rfl rfl rfl ?_
  refine WL_is (X_build rfl rfl rfl) rfl rfl rfl ?_
  refine WL_store rfl rfl rfl (by exact idx0) rfl rfl rfl rfl rfl rfl rfl rfl rfl ?_
  (repeat (first | refine WL_nil ?_ | refine Then_normal ?_ | refine W_ret ?_))
  refine Body_vals (.cons (.cellA rfl idx0 rfl rfl rfl) .nil) rfl (UpdE.sub (SubR.none _) ?_)
  exact ⟨⟨_, _, .slice none 0 0, .slice none 0 0, .slice none 0 0, rfl, hvv.mono L2, hww, Sl.nil, Sl.nil, Sl.nil⟩, rfl⟩
end Go.Proofs.Ytjampjbhaekjbaa
