/- Who may do what: lists searched and thinned out by a function. -/
import Derived.Test.YtjampjbhaekjbaaCredA
import Derived.Test.YtjampjbhaekjbaaEngI
namespace Go.Proofs.Ytjampjbhaekjbaa
open Go Go.Par PH
def fstBy {α : Type} (q : List α) (p : α → Bool) : Nat := q.findIdx p
theorem fstBy_is {α : Type} {q : List α} {p : α → Bool} {k : Nat} (hk : k < q.length) (h : p q[k] = true) (hb : ∀ j (hj : j < k), p (q[j]'(by omega)) = false) : fstBy q p = k := by
  unfold fstBy
  rw [List.findIdx_eq hk]
  exact ⟨h, fun j hj => hb j hj⟩
theorem fstBy_no {α : Type} {q : List α} {p : α → Bool} (hb : ∀ j (hj : j < q.length), p q[j] = false) : fstBy q p = q.length := by
  unfold fstBy
  rw [List.findIdx_eq_length]
  intro x hx
  obtain ⟨j, hj, rfl⟩ := List.getElem_of_mem hx
  exact hb j hj
theorem fstBy_le {α : Type} (q : List α) (p : α → Bool) : fstBy q p ≤ q.length := List.findIdx_le_length
theorem fstBy_at {α : Type} {q : List α} {p : α → Bool} (h : fstBy q p < q.length) : p q[fstBy q p] = true := List.findIdx_getElem (w := h)
theorem fstBy_before {α : Type} {q : List α} {p : α → Bool} {j : Nat} (h : j < fstBy q p) (hj : j < q.length) : p q[j] = false := by
  have := List.not_of_lt_findIdx (xs := q) (p := p) (i := j) h
  simpa using this
def idxV {α : Type} (q : List α) (p : α → Bool) : Int := if fstBy q p < q.length then (fstBy q p : Int) else -1
attribute [local irreducible] W WL Does Exec Body Then inBlk RG WR row obj pblk
set_option maxHeartbeats 1000000 in
theorem indexFuncN_fn (h : PH) (q : List (Int × Int)) (v : Value) (hv : Sl encN 2 h v q) (hl : q.length ≤ 1000000) (f : FuncId) (fn : Func) (ca : List Value) (p : Int × Int → Bool) (hfn : Try.prog.funcs[f]? = some fn) (hcb : callable fn = true)
    (hcl : ∀ i (hi : i < q.length) h', le h h' → Does Try.prog f ([.agg #[.int .u16 q[i].1, .int .u8 q[i].2]] ++ ca) [] h' (Ret fun r _ _ => r = .bool (p q[i]))) :
    Does Try.prog 37 [v, .func (.func f) #[] ca.toArray] [] h (Ret fun r R' _ => r = .int .i64 (idxV q p) ∧ R' = []) := by
  refine Does_of_W Try.func37 rfl (n := 19) rfl rfl (by simp only [argE, Nat.reduceAdd] <;> rfl) ?_
  (repeat (first | refine W_seq ?_))
  skip
  refine W_region rfl ?_
  refine WL_is (X_assign rfl rfl) rfl rfl rfl ?_
  (repeat (first | refine WL_nil ?_ | refine Then_normal ?_ | refine W_seq ?_))
  skip
  refine W_region rfl ?_
  refine WL_is (X_move rfl rfl) rfl rfl rfl ?_
  refine WL_is (X_len_sl rfl rfl rfl (by assumption)) rfl rfl rfl ?_
  refine WL_is (X_move rfl rfl) rfl rfl rfl ?_
  (repeat (first | refine WL_nil ?_ | refine Then_normal ?_ | refine W_block ?_))
  refine W_loop (X := Nat) (L := fun k => ⟨[(8, .int .i64 (k : Int)), (7, .int .i64 (q.length : Int)), (0, v), (1, .func (.func f) #[] ca.toArray)], [], [], h⟩) (p := fun k => k ≤ q.length ∧ ∀ i (hi : i < k) (hi' : i < q.length), p q[i] = false) (μ := fun k => q.length - k) 0 ⟨(by repeat (first | exact SubE_nil | refine SubE_cons rfl ?_)), rfl, SubR.refl _, rfl⟩ ⟨Nat.zero_le _, fun i hi => absurd hi (Nat.not_lt_zero _)⟩ ?_
  rintro k ⟨hkl, hgood⟩
  by_cases hlt : k < q.length
  · have hc := hcl k hlt h (le.refl _)
    (repeat (first | refine W_seq ?_))
    refine W_region rfl ?_
    refine WL_is (X_lss_t rfl rfl rfl (by omega)) rfl rfl rfl ?_
    (repeat (first | refine WL_nil ?_ | refine Then_normal ?_ | refine W_seq ?_ | refine W_skip ?_ | refine W_block ?_ | refine W_true rfl ?_))
    skip
    refine W_region rfl ?_
    refine WL_is (X_move rfl rfl) rfl rfl rfl ?_
    refine WL_is (X_assign rfl rfl) rfl rfl rfl ?_
    (repeat (first | refine WL_nil ?_ | refine Then_normal ?_ | refine W_seq ?_))
    skip
    refine W_region rfl ?_
    refine WL_is (X_move rfl rfl) rfl rfl rfl ?_
    refine WL_is (X_move rfl rfl) rfl rfl rfl ?_
    refine WL_is (X_move rfl rfl) rfl rfl rfl ?_
    (refine WL_index_slN rfl rfl rfl rfl rfl (by assumption) (by omega) rfl rfl rfl ?_; intro p_ hp_)
    refine WL_is (X_loadA_at rfl rfl (by assumption) rfl rfl rfl) rfl rfl rfl ?_
    cases hp : p q[k] with
    | true =>
      rw [hp] at hc
      refine WL_is (X_callv rfl rfl rfl hfn hcb hc) rfl rfl rfl ?_
      (repeat (first | refine WL_nil ?_ | refine Then_normal ?_ | refine W_seq ?_ | refine W_true rfl ?_))
      skip
      refine W_region rfl ?_
      refine WL_is (X_move rfl rfl) rfl rfl rfl ?_
      refine WL_is (X_assign rfl rfl) rfl rfl rfl ?_
      (repeat (first | refine WL_nil ?_ | refine Then_normal ?_ | refine W_ret ?_ | refine Then_ret ?_ | refine inBlk_ret ?_))
      refine Body_end rfl rfl rfl (SubR.none _) ⟨?_, rfl⟩
      have : fstBy q p = k := fstBy_is hlt hp fun j hj => hgood j hj (by omega)
      unfold idxV
      rw [this, if_pos hlt]
    | false =>
      rw [hp] at hc
      refine WL_is (X_callv rfl rfl rfl hfn hcb hc) rfl rfl rfl ?_
      (repeat (first | refine WL_nil ?_ | refine Then_normal ?_ | refine W_skip ?_ | refine inBlk_normal ?_ | refine W_false rfl ?_))
      skip
      refine W_region rfl ?_
      refine WL_is (X_addW rfl rfl rfl (by exact wrap_i64_in (by omega) (by omega))) rfl rfl rfl ?_
      refine WL_is (X_move rfl rfl) rfl rfl rfl ?_
      (repeat (first | refine WL_nil ?_ | refine Then_normal ?_))
      refine ⟨k + 1, ⟨(by repeat (first | exact SubE_nil | refine SubE_cons rfl ?_)), rfl, SubR.refl _, rfl⟩, ⟨by omega, fun i hi hi' => ?_⟩, by omega⟩
      rcases Nat.lt_or_ge i k with h1 | h1
      · exact hgood i h1 hi'
      · have : i = k := by omega
        subst this; exact hp
  · (repeat (first | refine W_seq ?_))
    refine W_region rfl ?_
    refine WL_is (X_lss_f rfl rfl rfl (by omega)) rfl rfl rfl ?_
    (repeat (first | refine WL_nil ?_ | refine Then_normal ?_ | refine W_seq ?_ | refine W_exit ?_ | refine Then_exit ?_ | refine inBlk_here ?_ | refine W_false rfl ?_))
    skip
    refine W_region rfl ?_
    refine WL_is (X_assign rfl rfl) rfl rfl rfl ?_
    (repeat (first | refine WL_nil ?_ | refine Then_normal ?_ | refine W_ret ?_))
    refine Body_end rfl rfl rfl (SubR.none _) ⟨?_, rfl⟩
    have : fstBy q p = q.length := fstBy_no fun j hj => hgood j (by omega) hj
    unfold idxV
    rw [this, if_neg (by omega)]
set_option maxHeartbeats 1000000 in
theorem indexFuncB_fn (h : PH) (q : List Int) (v : Value) (hv : Sl encU8 1 h v q) (hl : q.length ≤ 1000000) (f : FuncId) (fn : Func) (ca : List Value) (p : Int → Bool) (hfn : Try.prog.funcs[f]? = some fn) (hcb : callable fn = true)
    (hcl : ∀ i (hi : i < q.length) h', le h h' → Does Try.prog f ([.int .u8 q[i]] ++ ca) [] h' (Ret fun r _ _ => r = .bool (p q[i]))) :
    Does Try.prog 36 [v, .func (.func f) #[] ca.toArray] [] h (Ret fun r R' _ => r = .int .i64 (idxV q p) ∧ R' = []) := by
  refine Does_of_W Try.func36 rfl (n := 19) rfl rfl (by simp only [argE, Nat.reduceAdd] <;> rfl) ?_
  (repeat (first | refine W_seq ?_))
  skip
  refine W_region rfl ?_
  refine WL_is (X_assign rfl rfl) rfl rfl rfl ?_
  (repeat (first | refine WL_nil ?_ | refine Then_normal ?_ | refine W_seq ?_))
  skip
  refine W_region rfl ?_
  refine WL_is (X_move rfl rfl) rfl rfl rfl ?_
  refine WL_is (X_len_sl rfl rfl rfl (by assumption)) rfl rfl rfl ?_
  refine WL_is (X_move rfl rfl) rfl rfl rfl ?_
  (repeat (first | refine WL_nil ?_ | refine Then_normal ?_ | refine W_block ?_))
  refine W_loop (X := Nat) (L := fun k => ⟨[(8, .int .i64 (k : Int)), (7, .int .i64 (q.length : Int)), (0, v), (1, .func (.func f) #[] ca.toArray)], [], [], h⟩) (p := fun k => k ≤ q.length ∧ ∀ i (hi : i < k) (hi' : i < q.length), p q[i] = false) (μ := fun k => q.length - k) 0 ⟨(by repeat (first | exact SubE_nil | refine SubE_cons rfl ?_)), rfl, SubR.refl _, rfl⟩ ⟨Nat.zero_le _, fun i hi => absurd hi (Nat.not_lt_zero _)⟩ ?_
  rintro k ⟨hkl, hgood⟩
  by_cases hlt : k < q.length
  · have hc := hcl k hlt h (le.refl _)
    (repeat (first | refine W_seq ?_))
    refine W_region rfl ?_
    refine WL_is (X_lss_t rfl rfl rfl (by omega)) rfl rfl rfl ?_
    (repeat (first | refine WL_nil ?_ | refine Then_normal ?_ | refine W_seq ?_ | refine W_skip ?_ | refine W_block ?_ | refine W_true rfl ?_))
    skip
    refine W_region rfl ?_
    refine WL_is (X_move rfl rfl) rfl rfl rfl ?_
    refine WL_is (X_assign rfl rfl) rfl rfl rfl ?_
    (repeat (first | refine WL_nil ?_ | refine Then_normal ?_ | refine W_seq ?_))
    skip
    refine W_region rfl ?_
    refine WL_is (X_move rfl rfl) rfl rfl rfl ?_
    refine WL_is (X_move rfl rfl) rfl rfl rfl ?_
    refine WL_is (X_move rfl rfl) rfl rfl rfl ?_
    (refine WL_index_slN rfl rfl rfl rfl rfl (by assumption) (by omega) rfl rfl rfl ?_; intro p_ hp_)
    refine WL_is (X_load1_at rfl rfl (by assumption) rfl rfl) rfl rfl rfl ?_
    cases hp : p q[k] with
    | true =>
      rw [hp] at hc
      refine WL_is (X_callv rfl rfl rfl hfn hcb hc) rfl rfl rfl ?_
      (repeat (first | refine WL_nil ?_ | refine Then_normal ?_ | refine W_seq ?_ | refine W_true rfl ?_))
      skip
      refine W_region rfl ?_
      refine WL_is (X_move rfl rfl) rfl rfl rfl ?_
      refine WL_is (X_assign rfl rfl) rfl rfl rfl ?_
      (repeat (first | refine WL_nil ?_ | refine Then_normal ?_ | refine W_ret ?_ | refine Then_ret ?_ | refine inBlk_ret ?_))
      refine Body_end rfl rfl rfl (SubR.none _) ⟨?_, rfl⟩
      have : fstBy q p = k := fstBy_is hlt hp fun j hj => hgood j hj (by omega)
      unfold idxV
      rw [this, if_pos hlt]
    | false =>
      rw [hp] at hc
      refine WL_is (X_callv rfl rfl rfl hfn hcb hc) rfl rfl rfl ?_
      (repeat (first | refine WL_nil ?_ | refine Then_normal ?_ | refine W_skip ?_ | refine inBlk_normal ?_ | refine W_false rfl ?_))
      skip
      refine W_region rfl ?_
      refine WL_is (X_addW rfl rfl rfl (by exact wrap_i64_in (by omega) (by omega))) rfl rfl rfl ?_
      refine WL_is (X_move rfl rfl) rfl rfl rfl ?_
      (repeat (first | refine WL_nil ?_ | refine Then_normal ?_))
      refine ⟨k + 1, ⟨(by repeat (first | exact SubE_nil | refine SubE_cons rfl ?_)), rfl, SubR.refl _, rfl⟩, ⟨by omega, fun i hi hi' => ?_⟩, by omega⟩
      rcases Nat.lt_or_ge i k with h1 | h1
      · exact hgood i h1 hi'
      · have : i = k := by omega
        subst this; exact hp
  · (repeat (first | refine W_seq ?_))
    refine W_region rfl ?_
    refine WL_is (X_lss_f rfl rfl rfl (by omega)) rfl rfl rfl ?_
    (repeat (first | refine WL_nil ?_ | refine Then_normal ?_ | refine W_seq ?_ | refine W_exit ?_ | refine Then_exit ?_ | refine inBlk_here ?_ | refine W_false rfl ?_))
    skip
    refine W_region rfl ?_
    refine WL_is (X_assign rfl rfl) rfl rfl rfl ?_
    (repeat (first | refine WL_nil ?_ | refine Then_normal ?_ | refine W_ret ?_))
    refine Body_end rfl rfl rfl (SubR.none _) ⟨?_, rfl⟩
    have : fstBy q p = q.length := fstBy_no fun j hj => hgood j (by omega) hj
    unfold idxV
    rw [this, if_neg (by omega)]
theorem idxV_any {α : Type} {q : List α} {p : α → Bool} : q.any p = decide (0 ≤ idxV q p) := by
  unfold idxV
  by_cases hf : fstBy q p < q.length
  · rw [if_pos hf, decide_eq_true (by omega)]
    rw [List.any_eq_true]
    exact ⟨_, List.getElem_mem hf, fstBy_at hf⟩
  · rw [if_neg hf, decide_eq_false (by omega)]
    rw [List.any_eq_false]
    intro x hx
    obtain ⟨j, hj, rfl⟩ := List.getElem_of_mem hx
    have := fstBy_le q p
    rw [fstBy_before (p := p) (q := q) (by omega) hj]; simp
theorem containsFuncB_fn (h : PH) (q : List Int) (v : Value) (hv : Sl encU8 1 h v q) (hl : q.length ≤ 1000000) (f : FuncId) (fn : Func) (ca : List Value) (p : Int → Bool) (hfn : Try.prog.funcs[f]? = some fn) (hcb : callable fn = true)
    (hcl : ∀ i (hi : i < q.length) h', le h h' → Does Try.prog f ([.int .u8 q[i]] ++ ca) [] h' (Ret fun r _ _ => r = .bool (p q[i]))) :
    Does Try.prog 23 [v, .func (.func f) #[] ca.toArray] [] h (Ret fun r _ _ => r = .bool (q.any p)) := by
  have hi := indexFuncB_fn h q v hv hl f fn ca p hfn hcb hcl
  have hid := idxV_any (q := q) (p := p)
  generalize idxV q p = x at hi hid
  rw [hid]
  refine Does_of_W Try.func23 rfl (n := 9) rfl rfl (by simp only [argE, Nat.reduceAdd] <;> rfl) ?_
  (repeat (first | refine W_seq ?_))
  skip
  refine W_region rfl ?_
  refine WL_is (X_assign rfl rfl) rfl rfl rfl ?_
  (repeat (first | refine WL_nil ?_ | refine Then_normal ?_ | refine W_seq ?_))
  skip
  refine W_region rfl ?_
  refine WL_is (X_move rfl rfl) rfl rfl rfl ?_
  refine WL_is (X_move rfl rfl) rfl rfl rfl ?_
  refine WL_call rfl rfl rfl Try.func36 rfl rfl rfl rfl hi ?_
  rintro _ _ H1 L1 ⟨rfl, rfl⟩
  simp only [List.nil_append]
  by_cases h0 : 0 ≤ x
  · refine WL_is (X_geq_t rfl rfl rfl (by omega)) rfl rfl rfl ?_
    refine WL_is (X_assign rfl rfl) rfl rfl rfl ?_
    (repeat (first | refine WL_nil ?_ | refine Then_normal ?_ | refine W_ret ?_))
    refine Body_end rfl rfl rfl (SubR.none _) ?_
    rw [decide_eq_true h0]
  · refine WL_is (X_geq_f rfl rfl rfl (by omega)) rfl rfl rfl ?_
    refine WL_is (X_assign rfl rfl) rfl rfl rfl ?_
    (repeat (first | refine WL_nil ?_ | refine Then_normal ?_ | refine W_ret ?_))
    refine Body_end rfl rfl rfl (SubR.none _) ?_
    rw [decide_eq_false h0]
end Go.Proofs.Ytjampjbhaekjbaa
