/- Access lists: what they are as data, and the walks of the functions on rows of named ones. -/
import Derived.Test.YtcgmbfgmofcemaaBase
namespace Go.Proofs.Ytcgmbfgmofcemaa
set_option maxRecDepth 4000
open Go Go.Par PH
def encN (x : Int × Int) : List Value := [.int .u16 x.1, .int .u8 x.2]
def encU8 (x : Int) : List Value := [.int .u8 x]
attribute [local irreducible] W WL Does Exec Body Then inBlk RG WR row obj pblk

/-- One entry of a row of named ones is right. -/
def goodAt (l : List (Int × Int)) (i : Nat) (hi : i < l.length) : Prop := l[i].2 ≤ 7 ∧ (∀ h0 : 0 < i, l[i - 1].1 < l[i].1)
instance (l : List (Int × Int)) (i : Nat) (hi : i < l.length) : Decidable (goodAt l i hi) := by unfold goodAt; infer_instance
def allB : Nat → (Nat → Bool) → Bool
  | 0, _ => true
  | k + 1, p => allB k p && p k
theorem allB_iff {p : Nat → Bool} : ∀ {k : Nat}, allB k p = true ↔ ∀ j, j < k → p j = true
  | 0 => by simp [allB]
  | k + 1 => by
    simp only [allB, Bool.and_eq_true, allB_iff (k := k)]
    constructor
    · rintro ⟨h1, h2⟩ j hj
      rcases Nat.lt_or_ge j k with h | h
      · exact h1 j h
      · rw [show j = k from by omega]; exact h2
    · intro h; exact ⟨fun j hj => h j (by omega), h k (by omega)⟩
theorem allB_false {p : Nat → Bool} {k j : Nat} (hj : j < k) (h : p j = false) : allB k p = false := by
  cases ha : allB k p with
  | false => rfl
  | true => rw [allB_iff.1 ha j hj] at h; cases h
def goodB (l : List (Int × Int)) (i : Nat) : Bool := if hi : i < l.length then decide (goodAt l i hi) else true
def namedB (l : List (Int × Int)) : Bool := decide (l.length ≤ 4) && allB l.length (goodB l)

set_option maxHeartbeats 400000 in
theorem named_ref (h : PH) (l : List (Int × Int)) (v : Value) (hv : Sl encN 2 h v l) (hl : l.length ≤ 1000000) :
    Does Try.prog 42 [v] [] h (Ret fun r _ _ => r = .bool (namedB l)) := by
  refine Does_of_W Try.func42 rfl (n := 37) rfl rfl (by simp only [argE] <;> rfl) ?_
  (repeat (first | refine W_seq ?_))
  skip
  refine W_region rfl ?_
  refine WL_is (X_assign rfl rfl) rfl rfl rfl ?_
  (repeat (first | refine WL_nil ?_ | refine Then_normal ?_ | refine W_seq ?_))
  skip
  refine W_region rfl ?_
  refine WL_is (X_assign rfl rfl) rfl rfl rfl ?_
  (repeat (first | refine WL_nil ?_ | refine Then_normal ?_ | refine W_block ?_))
  refine W_loop (X := Nat) (L := fun k => ⟨[(3, .int .i64 (k : Int)), (0, v)], [], [], h⟩) (p := fun k => k ≤ l.length ∧ ∀ j, j < k → goodB l j = true) (μ := fun k => l.length - k) 0 ⟨(by repeat (first | exact SubE_nil | refine SubE_cons rfl ?_)), rfl, SubR.refl _, rfl⟩ ⟨Nat.zero_le _, fun j hj => by omega⟩ ?_
  rintro k ⟨hk, hgood⟩
  by_cases hlt : k < l.length
  · (repeat (first | refine W_seq ?_))
    refine W_region rfl ?_
    refine WL_is (X_move rfl rfl) rfl rfl rfl ?_
    refine WL_is (X_move rfl rfl) rfl rfl rfl ?_
    refine WL_is (X_len_sl rfl rfl rfl (by assumption)) rfl rfl rfl ?_
    refine WL_is (X_lss_t rfl rfl rfl (by omega)) rfl rfl rfl ?_
    (repeat (first | refine WL_nil ?_ | refine Then_normal ?_ | refine W_seq ?_ | refine W_skip ?_ | refine W_block ?_ | refine W_true rfl ?_))
    by_cases hperm : 7 < l[k].2
    · have hbad : goodB l k = false := by simp only [goodB, dif_pos hlt, goodAt]; exact decide_eq_false (fun hc => by omega)
      skip
      refine W_draw0 24 rfl rfl rfl rfl ?_
      refine RG_val rfl rfl (fun _ => rfl) (fun _ => X_move rfl rfl) ?_
      refine RG_val rfl rfl (fun _ => rfl) (fun _ => X_move rfl rfl) ?_
      (refine RG_index_slN rfl rfl rfl (fun _ => rfl) (fun _ => rfl) (by assumption) (by omega) rfl rfl (fun _ => rfl) ?_; intro p_ hp_)
      (refine RG_fieldAddr_at rfl (fun _ => rfl) (by assumption) rfl rfl rfl (fun _ => rfl) ?_; intro p_ hp_)
      refine RG_val rfl rfl (fun _ => rfl) (fun _ => X_load1_at rfl rfl (by assumption) rfl rfl) ?_
      refine RG_val rfl rfl (fun _ => rfl) (fun _ => X_gtr_t rfl rfl rfl (by omega)) ?_
      refine RG_val rfl rfl (fun _ => rfl) (fun _ => X_move rfl rfl) ?_
      refine RG_off rfl rfl (fun _ => rfl) ?_
      refine RG_off rfl rfl (fun _ => rfl) ?_
      refine RG_off rfl rfl (fun _ => rfl) ?_
      refine RG_off rfl rfl (fun _ => rfl) ?_
      refine RG_off rfl rfl (fun _ => rfl) ?_
      refine RG_off rfl rfl (fun _ => rfl) ?_
      refine RG_off rfl rfl (fun _ => rfl) ?_
      refine RG_off rfl rfl (fun _ => rfl) ?_
      refine RG_off rfl rfl (fun _ => rfl) ?_
      refine RG_off rfl rfl (fun _ => rfl) ?_
      refine RG_off rfl rfl (fun _ => rfl) ?_
      refine RG_off rfl rfl (fun _ => rfl) ?_
      refine RG_off rfl rfl (fun _ => rfl) ?_
      refine RG_off rfl rfl (fun _ => rfl) ?_
      refine RG_off rfl rfl (fun _ => rfl) ?_
      refine RG_off rfl rfl (fun _ => rfl) ?_
      refine RG_val rfl rfl (fun _ => rfl) (fun _ => X_pick_t rfl rfl rfl) ?_
      refine RG_nil ?_
      refine RG_endv rfl (fun vs => by simp only [endE, List.cons_append, List.nil_append] <;> rfl) (fun vs => rfl) ?_
      (repeat (first | refine WL_nil ?_ | refine Then_normal ?_ | refine W_seq ?_ | refine W_true rfl ?_))
      skip
      refine W_region rfl ?_
      refine WL_is (X_assign rfl rfl) rfl rfl rfl ?_
      (repeat (first | refine WL_nil ?_ | refine Then_normal ?_ | refine W_ret ?_ | refine Then_ret ?_ | refine inBlk_ret ?_))
      refine Body_end rfl rfl rfl (SubR.none _) ?_
      simp [namedB, allB_false hlt hbad]
    · by_cases h0 : k = 0
      · have hok : goodB l k = true := by simp only [goodB, dif_pos hlt, goodAt]; exact decide_eq_true ⟨by omega, fun _ => by omega⟩
        subst h0
        skip
        refine W_draw0 24 rfl rfl rfl rfl ?_
        refine RG_val rfl rfl (fun _ => rfl) (fun _ => X_move rfl rfl) ?_
        refine RG_val rfl rfl (fun _ => rfl) (fun _ => X_move rfl rfl) ?_
        (refine RG_index_slN rfl rfl rfl (fun _ => rfl) (fun _ => rfl) (by assumption) (by omega) rfl rfl (fun _ => rfl) ?_; intro p_ hp_)
        (refine RG_fieldAddr_at rfl (fun _ => rfl) (by assumption) rfl rfl rfl (fun _ => rfl) ?_; intro p_ hp_)
        refine RG_val rfl rfl (fun _ => rfl) (fun _ => X_load1_at rfl rfl (by assumption) rfl rfl) ?_
        refine RG_val rfl rfl (fun _ => rfl) (fun _ => X_gtr_f rfl rfl rfl (by omega)) ?_
        refine RG_val rfl rfl (fun _ => rfl) (fun _ => X_move rfl rfl) ?_
        refine RG_val rfl rfl (fun _ => rfl) (fun _ => X_move rfl rfl) ?_
        refine RG_val rfl rfl (fun _ => rfl) (fun _ => X_gtr_f rfl rfl rfl (by omega)) ?_
        refine RG_val rfl rfl (fun _ => rfl) (fun _ => X_move rfl rfl) ?_
        refine RG_off rfl rfl (fun _ => rfl) ?_
        refine RG_off rfl rfl (fun _ => rfl) ?_
        refine RG_off rfl rfl (fun _ => rfl) ?_
        refine RG_off rfl rfl (fun _ => rfl) ?_
        refine RG_off rfl rfl (fun _ => rfl) ?_
        refine RG_off rfl rfl (fun _ => rfl) ?_
        refine RG_off rfl rfl (fun _ => rfl) ?_
        refine RG_off rfl rfl (fun _ => rfl) ?_
        refine RG_off rfl rfl (fun _ => rfl) ?_
        refine RG_off rfl rfl (fun _ => rfl) ?_
        refine RG_off rfl rfl (fun _ => rfl) ?_
        refine RG_off rfl rfl (fun _ => rfl) ?_
        refine RG_val rfl rfl (fun _ => rfl) (fun _ => X_pick_f rfl rfl rfl) ?_
        refine RG_val rfl rfl (fun _ => rfl) (fun _ => X_pick_f rfl rfl rfl) ?_
        refine RG_nil ?_
        refine RG_endv rfl (fun vs => by simp only [endE, List.cons_append, List.nil_append] <;> rfl) (fun vs => rfl) ?_
        (repeat (first | refine WL_nil ?_ | refine Then_normal ?_ | refine W_skip ?_ | refine inBlk_normal ?_ | refine W_false rfl ?_))
        skip
        refine W_region rfl ?_
        refine WL_is (X_move rfl rfl) rfl rfl rfl ?_
        refine WL_is (X_addW rfl rfl rfl (by exact wrap_i64_in (by omega) (by omega))) rfl rfl rfl ?_
        refine WL_is (X_assign rfl rfl) rfl rfl rfl ?_
        (repeat (first | refine WL_nil ?_ | refine Then_normal ?_))
        exact ⟨1, ⟨(by repeat (first | exact SubE_nil | refine SubE_cons rfl ?_)), rfl, SubR.refl _, rfl⟩, ⟨by omega, fun j hj => by rw [show j = 0 from by omega]; exact hok⟩, by omega⟩
      · have e1 : ((k : Int) - 1).toNat = k - 1 := by omega
        by_cases hle : l[k].1 ≤ l[k - 1].1
        · have hbad : goodB l k = false := by simp only [goodB, dif_pos hlt, goodAt]; exact decide_eq_false (fun hc => by have := hc.2 (by omega); omega)
          have hle' : l[k].1 ≤ (l[((k : Int) - 1).toNat]'(by omega)).1 := by simp only [e1]; exact hle
          skip
          refine W_draw0 24 rfl rfl rfl rfl ?_
          refine RG_val rfl rfl (fun _ => rfl) (fun _ => X_move rfl rfl) ?_
          refine RG_val rfl rfl (fun _ => rfl) (fun _ => X_move rfl rfl) ?_
          (refine RG_index_slN rfl rfl rfl (fun _ => rfl) (fun _ => rfl) (by assumption) (by omega) rfl rfl (fun _ => rfl) ?_; intro p_ hp_)
          (refine RG_fieldAddr_at rfl (fun _ => rfl) (by assumption) rfl rfl rfl (fun _ => rfl) ?_; intro p_ hp_)
          refine RG_val rfl rfl (fun _ => rfl) (fun _ => X_load1_at rfl rfl (by assumption) rfl rfl) ?_
          refine RG_val rfl rfl (fun _ => rfl) (fun _ => X_gtr_f rfl rfl rfl (by omega)) ?_
          refine RG_val rfl rfl (fun _ => rfl) (fun _ => X_move rfl rfl) ?_
          refine RG_val rfl rfl (fun _ => rfl) (fun _ => X_move rfl rfl) ?_
          refine RG_val rfl rfl (fun _ => rfl) (fun _ => X_gtr_t rfl rfl rfl (by omega)) ?_
          refine RG_val rfl rfl (fun _ => rfl) (fun _ => X_move rfl rfl) ?_
          refine RG_val rfl rfl (fun _ => rfl) (fun _ => X_move rfl rfl) ?_
          refine RG_val rfl rfl (fun _ => rfl) (fun _ => X_move rfl rfl) ?_
          refine RG_val rfl rfl (fun _ => rfl) (fun _ => X_subW rfl rfl rfl (by exact wrap_i64_in (by omega) (by omega))) ?_
          (refine RG_index_sl rfl rfl rfl (fun _ => rfl) (fun _ => rfl) (by assumption) (by omega) (by omega) rfl rfl (fun _ => rfl) ?_; intro p_ hp_)
          (refine RG_fieldAddr_at rfl (fun _ => rfl) (by assumption) rfl rfl rfl (fun _ => rfl) ?_; intro p_ hp_)
          refine RG_val rfl rfl (fun _ => rfl) (fun _ => X_load1_at rfl rfl (by assumption) rfl rfl) ?_
          refine RG_val rfl rfl (fun _ => rfl) (fun _ => X_move rfl rfl) ?_
          refine RG_val rfl rfl (fun _ => rfl) (fun _ => X_move rfl rfl) ?_
          (refine RG_index_slN rfl rfl rfl (fun _ => rfl) (fun _ => rfl) (by assumption) (by omega) rfl rfl (fun _ => rfl) ?_; intro p_ hp_)
          (refine RG_fieldAddr_at rfl (fun _ => rfl) (by assumption) rfl rfl rfl (fun _ => rfl) ?_; intro p_ hp_)
          refine RG_val rfl rfl (fun _ => rfl) (fun _ => X_load1_at rfl rfl (by assumption) rfl rfl) ?_
          refine RG_val rfl rfl (fun _ => rfl) (fun _ => X_geq_t rfl rfl rfl (by omega)) ?_
          refine RG_val rfl rfl (fun _ => rfl) (fun _ => X_pick_t rfl rfl rfl) ?_
          refine RG_val rfl rfl (fun _ => rfl) (fun _ => X_pick_f rfl rfl rfl) ?_
          refine RG_nil ?_
          refine RG_endv rfl (fun vs => by simp only [endE, List.cons_append, List.nil_append] <;> rfl) (fun vs => rfl) ?_
          (repeat (first | refine WL_nil ?_ | refine Then_normal ?_ | refine W_seq ?_ | refine W_true rfl ?_))
          skip
          refine W_region rfl ?_
          refine WL_is (X_assign rfl rfl) rfl rfl rfl ?_
          (repeat (first | refine WL_nil ?_ | refine Then_normal ?_ | refine W_ret ?_ | refine Then_ret ?_ | refine inBlk_ret ?_))
          refine Body_end rfl rfl rfl (SubR.none _) ?_
          simp [namedB, allB_false hlt hbad]
        · have hok : goodB l k = true := by simp only [goodB, dif_pos hlt, goodAt]; exact decide_eq_true ⟨by omega, fun _ => by omega⟩
          have hle' : ¬ l[k].1 ≤ (l[((k : Int) - 1).toNat]'(by omega)).1 := by simp only [e1]; exact hle
          skip
          refine W_draw0 24 rfl rfl rfl rfl ?_
          refine RG_val rfl rfl (fun _ => rfl) (fun _ => X_move rfl rfl) ?_
          refine RG_val rfl rfl (fun _ => rfl) (fun _ => X_move rfl rfl) ?_
          (refine RG_index_slN rfl rfl rfl (fun _ => rfl) (fun _ => rfl) (by assumption) (by omega) rfl rfl (fun _ => rfl) ?_; intro p_ hp_)
          (refine RG_fieldAddr_at rfl (fun _ => rfl) (by assumption) rfl rfl rfl (fun _ => rfl) ?_; intro p_ hp_)
          refine RG_val rfl rfl (fun _ => rfl) (fun _ => X_load1_at rfl rfl (by assumption) rfl rfl) ?_
          refine RG_val rfl rfl (fun _ => rfl) (fun _ => X_gtr_f rfl rfl rfl (by omega)) ?_
          refine RG_val rfl rfl (fun _ => rfl) (fun _ => X_move rfl rfl) ?_
          refine RG_val rfl rfl (fun _ => rfl) (fun _ => X_move rfl rfl) ?_
          refine RG_val rfl rfl (fun _ => rfl) (fun _ => X_gtr_t rfl rfl rfl (by omega)) ?_
          refine RG_val rfl rfl (fun _ => rfl) (fun _ => X_move rfl rfl) ?_
          refine RG_val rfl rfl (fun _ => rfl) (fun _ => X_move rfl rfl) ?_
          refine RG_val rfl rfl (fun _ => rfl) (fun _ => X_move rfl rfl) ?_
          refine RG_val rfl rfl (fun _ => rfl) (fun _ => X_subW rfl rfl rfl (by exact wrap_i64_in (by omega) (by omega))) ?_
          (refine RG_index_sl rfl rfl rfl (fun _ => rfl) (fun _ => rfl) (by assumption) (by omega) (by omega) rfl rfl (fun _ => rfl) ?_; intro p_ hp_)
          (refine RG_fieldAddr_at rfl (fun _ => rfl) (by assumption) rfl rfl rfl (fun _ => rfl) ?_; intro p_ hp_)
          refine RG_val rfl rfl (fun _ => rfl) (fun _ => X_load1_at rfl rfl (by assumption) rfl rfl) ?_
          refine RG_val rfl rfl (fun _ => rfl) (fun _ => X_move rfl rfl) ?_
          refine RG_val rfl rfl (fun _ => rfl) (fun _ => X_move rfl rfl) ?_
          (refine RG_index_slN rfl rfl rfl (fun _ => rfl) (fun _ => rfl) (by assumption) (by omega) rfl rfl (fun _ => rfl) ?_; intro p_ hp_)
          (refine RG_fieldAddr_at rfl (fun _ => rfl) (by assumption) rfl rfl rfl (fun _ => rfl) ?_; intro p_ hp_)
          refine RG_val rfl rfl (fun _ => rfl) (fun _ => X_load1_at rfl rfl (by assumption) rfl rfl) ?_
          refine RG_val rfl rfl (fun _ => rfl) (fun _ => X_geq_f rfl rfl rfl (by omega)) ?_
          refine RG_val rfl rfl (fun _ => rfl) (fun _ => X_pick_t rfl rfl rfl) ?_
          refine RG_val rfl rfl (fun _ => rfl) (fun _ => X_pick_f rfl rfl rfl) ?_
          refine RG_nil ?_
          refine RG_endv rfl (fun vs => by simp only [endE, List.cons_append, List.nil_append] <;> rfl) (fun vs => rfl) ?_
          (repeat (first | refine WL_nil ?_ | refine Then_normal ?_ | refine W_skip ?_ | refine inBlk_normal ?_ | refine W_false rfl ?_))
          skip
          refine W_region rfl ?_
          refine WL_is (X_move rfl rfl) rfl rfl rfl ?_
          refine WL_is (X_addW rfl rfl rfl (by exact wrap_i64_in (by omega) (by omega))) rfl rfl rfl ?_
          refine WL_is (X_assign rfl rfl) rfl rfl rfl ?_
          (repeat (first | refine WL_nil ?_ | refine Then_normal ?_))
          refine ⟨k + 1, ⟨(by repeat (first | exact SubE_nil | refine SubE_cons rfl ?_)), rfl, SubR.refl _, rfl⟩, ⟨by omega, fun j hj => ?_⟩, by omega⟩
          rcases Nat.lt_or_ge j k with hj' | hj'
          · exact hgood j hj'
          · rw [show j = k from by omega]; exact hok
  · (repeat (first | refine W_seq ?_))
    refine W_region rfl ?_
    refine WL_is (X_move rfl rfl) rfl rfl rfl ?_
    refine WL_is (X_move rfl rfl) rfl rfl rfl ?_
    refine WL_is (X_len_sl rfl rfl rfl (by assumption)) rfl rfl rfl ?_
    refine WL_is (X_lss_f rfl rfl rfl (by omega)) rfl rfl rfl ?_
    (repeat (first | refine WL_nil ?_ | refine Then_normal ?_ | refine W_seq ?_ | refine W_exit ?_ | refine Then_exit ?_ | refine inBlk_here ?_ | refine W_false rfl ?_))
    skip
    refine W_region rfl ?_
    refine WL_is (X_move rfl rfl) rfl rfl rfl ?_
    refine WL_is (X_len_sl rfl rfl rfl (by assumption)) rfl rfl rfl ?_
    refine WL_is (X_leq rfl rfl rfl) rfl rfl rfl ?_
    refine WL_is (X_assign rfl rfl) rfl rfl rfl ?_
    (repeat (first | refine WL_nil ?_ | refine Then_normal ?_ | refine W_ret ?_))
    refine Body_end rfl rfl rfl (SubR.none _) ?_
    have hkl : k = l.length := by omega
    subst hkl
    simp [namedB, allB_iff.2 hgood]; omega

set_option maxHeartbeats 400000 in
theorem eachU8_fn (h : PH) (l : List Int) (v : Value) (hv : Sl encU8 1 h v l) (hl : l.length ≤ 1000000) (f : FuncId) (fn : Func) (ca : List Value) (q : Nat → Bool) (hfn : Try.prog.funcs[f]? = some fn) (hcb : callable fn = true)
    (hcl : ∀ i (hi : i < l.length), Does Try.prog f ([.int .i64 (i : Int), .int .u8 l[i]] ++ ca) [] h (Ret fun r _ _ => r = .bool (q i))) :
    Does Try.prog 43 [v, .func (.func f) #[] ca.toArray] [] h (Ret fun r _ _ => r = .bool (allB l.length q)) := by
  refine Does_of_W Try.func43 rfl (n := 20) rfl rfl (by simp only [argE, Nat.reduceAdd] <;> rfl) ?_
  (repeat (first | refine W_seq ?_))
  skip
  refine W_region rfl ?_
  refine WL_is (X_assign rfl rfl) rfl rfl rfl ?_
  (repeat (first | refine WL_nil ?_ | refine Then_normal ?_ | refine W_seq ?_))
  skip
  refine W_region rfl ?_
  refine WL_is (X_move rfl rfl) rfl rfl rfl ?_
  refine WL_is (X_len_sl rfl rfl rfl (by assumption)) rfl rfl rfl ?_
  refine WL_is (X_move rfl rfl) rfl rfl rfl ?_
  (repeat (first | refine WL_nil ?_ | refine Then_normal ?_ | refine W_block ?_))
  refine W_loop (X := Nat) (L := fun k => ⟨[(9, .int .i64 (k : Int)), (8, .int .i64 (l.length : Int)), (7, v), (1, .func (.func f) #[] ca.toArray)], [], [], h⟩) (p := fun k => k ≤ l.length ∧ ∀ j, j < k → q j = true) (μ := fun k => l.length - k) 0 ⟨(by repeat (first | exact SubE_nil | refine SubE_cons rfl ?_)), rfl, SubR.refl _, rfl⟩ ⟨Nat.zero_le _, fun j hj => by omega⟩ ?_
  rintro k ⟨hk, hgood⟩
  by_cases hlt : k < l.length
  · (repeat (first | refine W_seq ?_))
    refine W_region rfl ?_
    refine WL_is (X_lss_t rfl rfl rfl (by omega)) rfl rfl rfl ?_
    (repeat (first | refine WL_nil ?_ | refine Then_normal ?_ | refine W_seq ?_ | refine W_skip ?_ | refine W_block ?_ | refine W_true rfl ?_))
    skip
    refine W_region rfl ?_
    refine WL_is (X_move rfl rfl) rfl rfl rfl ?_
    (refine WL_index_slN rfl rfl rfl rfl rfl (by assumption) (by omega) rfl rfl rfl ?_; intro p_ hp_)
    refine WL_is (X_load1_at rfl rfl (by assumption) rfl rfl) rfl rfl rfl ?_
    refine WL_is (X_assign rfl rfl) rfl rfl rfl ?_
    refine WL_is (X_assign rfl rfl) rfl rfl rfl ?_
    (repeat (first | refine WL_nil ?_ | refine Then_normal ?_ | refine W_seq ?_))
    skip
    refine W_region rfl ?_
    refine WL_is (X_move rfl rfl) rfl rfl rfl ?_
    refine WL_is (X_move rfl rfl) rfl rfl rfl ?_
    refine WL_is (X_move rfl rfl) rfl rfl rfl ?_
    have hc := hcl k hlt
    refine WL_is (X_callv rfl rfl rfl hfn hcb (by simpa using hc)) rfl rfl rfl ?_
    cases hq : q k with
    | true =>
      refine WL_is (X_not rfl rfl) rfl rfl rfl ?_
      (repeat (first | refine WL_nil ?_ | refine Then_normal ?_ | refine W_skip ?_ | refine inBlk_normal ?_ | refine W_false rfl ?_))
      skip
      refine W_region rfl ?_
      refine WL_is (X_addW rfl rfl rfl (by exact wrap_i64_in (by omega) (by omega))) rfl rfl rfl ?_
      refine WL_is (X_move rfl rfl) rfl rfl rfl ?_
      (repeat (first | refine WL_nil ?_ | refine Then_normal ?_))
      refine ⟨k + 1, ⟨(by repeat (first | exact SubE_nil | refine SubE_cons rfl ?_)), rfl, SubR.refl _, rfl⟩, ⟨by omega, fun j hj => ?_⟩, by omega⟩
      rcases Nat.lt_or_ge j k with hj' | hj'
      · exact hgood j hj'
      · rw [show j = k from by omega]; exact hq
    | false =>
      refine WL_is (X_not rfl rfl) rfl rfl rfl ?_
      (repeat (first | refine WL_nil ?_ | refine Then_normal ?_ | refine W_seq ?_ | refine W_true rfl ?_))
      skip
      refine W_region rfl ?_
      refine WL_is (X_assign rfl rfl) rfl rfl rfl ?_
      (repeat (first | refine WL_nil ?_ | refine Then_normal ?_ | refine W_ret ?_ | refine Then_ret ?_ | refine inBlk_ret ?_))
      refine Body_end rfl rfl rfl (SubR.none _) ?_
      simp [allB_false hlt hq]
  · (repeat (first | refine W_seq ?_))
    refine W_region rfl ?_
    refine WL_is (X_lss_f rfl rfl rfl (by omega)) rfl rfl rfl ?_
    (repeat (first | refine WL_nil ?_ | refine Then_normal ?_ | refine W_seq ?_ | refine W_exit ?_ | refine Then_exit ?_ | refine inBlk_here ?_ | refine W_false rfl ?_))
    skip
    refine W_region rfl ?_
    refine WL_is (X_assign rfl rfl) rfl rfl rfl ?_
    (repeat (first | refine WL_nil ?_ | refine Then_normal ?_ | refine W_ret ?_))
    refine Body_end rfl rfl rfl (SubR.none _) ?_
    have hkl : k = l.length := by omega
    subst hkl
    simp [allB_iff.2 hgood]

set_option maxHeartbeats 400000 in
theorem eachN_fn (h : PH) (l : List (Int × Int)) (v : Value) (hv : Sl encN 2 h v l) (hl : l.length ≤ 1000000) (f : FuncId) (fn : Func) (ca : List Value) (q : Nat → Bool) (hfn : Try.prog.funcs[f]? = some fn) (hcb : callable fn = true)
    (hcl : ∀ i (hi : i < l.length), Does Try.prog f ([.int .i64 (i : Int), .agg #[.int .u16 l[i].1, .int .u8 l[i].2]] ++ ca) [] h (Ret fun r _ _ => r = .bool (q i))) :
    Does Try.prog 50 [v, .func (.func f) #[] ca.toArray] [] h (Ret fun r _ _ => r = .bool (allB l.length q)) := by
  refine Does_of_W Try.func50 rfl (n := 20) rfl rfl (by simp only [argE, Nat.reduceAdd] <;> rfl) ?_
  (repeat (first | refine W_seq ?_))
  skip
  refine W_region rfl ?_
  refine WL_is (X_assign rfl rfl) rfl rfl rfl ?_
  (repeat (first | refine WL_nil ?_ | refine Then_normal ?_ | refine W_seq ?_))
  skip
  refine W_region rfl ?_
  refine WL_is (X_move rfl rfl) rfl rfl rfl ?_
  refine WL_is (X_len_sl rfl rfl rfl (by assumption)) rfl rfl rfl ?_
  refine WL_is (X_move rfl rfl) rfl rfl rfl ?_
  (repeat (first | refine WL_nil ?_ | refine Then_normal ?_ | refine W_block ?_))
  refine W_loop (X := Nat) (L := fun k => ⟨[(9, .int .i64 (k : Int)), (8, .int .i64 (l.length : Int)), (7, v), (1, .func (.func f) #[] ca.toArray)], [], [], h⟩) (p := fun k => k ≤ l.length ∧ ∀ j, j < k → q j = true) (μ := fun k => l.length - k) 0 ⟨(by repeat (first | exact SubE_nil | refine SubE_cons rfl ?_)), rfl, SubR.refl _, rfl⟩ ⟨Nat.zero_le _, fun j hj => by omega⟩ ?_
  rintro k ⟨hk, hgood⟩
  by_cases hlt : k < l.length
  · (repeat (first | refine W_seq ?_))
    refine W_region rfl ?_
    refine WL_is (X_lss_t rfl rfl rfl (by omega)) rfl rfl rfl ?_
    (repeat (first | refine WL_nil ?_ | refine Then_normal ?_ | refine W_seq ?_ | refine W_skip ?_ | refine W_block ?_ | refine W_true rfl ?_))
    skip
    refine W_region rfl ?_
    refine WL_is (X_move rfl rfl) rfl rfl rfl ?_
    (refine WL_index_slN rfl rfl rfl rfl rfl (by assumption) (by omega) rfl rfl rfl ?_; intro p_ hp_)
    refine WL_is (X_loadA_at rfl rfl (by assumption) rfl rfl rfl) rfl rfl rfl ?_
    (refine WL_alloc rfl rfl rfl rfl rfl rfl ?_; intro b_)
    refine WL_is (X_assign rfl rfl) rfl rfl rfl ?_
    refine WL_store rfl rfl rfl (by exact idx0) rfl rfl rfl rfl rfl rfl rfl rfl rfl ?_
    (repeat (first | refine WL_nil ?_ | refine Then_normal ?_ | refine W_seq ?_))
    skip
    refine W_region rfl ?_
    refine WL_is (X_move rfl rfl) rfl rfl rfl ?_
    refine WL_is (X_move rfl rfl) rfl rfl rfl ?_
    refine WL_is (X_loadA rfl rfl (by exact idx0) rfl rfl rfl) rfl rfl rfl ?_
    have hc := hcl k hlt
    refine WL_is (X_callv rfl rfl rfl hfn hcb (by simpa using hc)) rfl rfl rfl ?_
    cases hq : q k with
    | true =>
      refine WL_is (X_not rfl rfl) rfl rfl rfl ?_
      (repeat (first | refine WL_nil ?_ | refine Then_normal ?_ | refine W_skip ?_ | refine inBlk_normal ?_ | refine W_false rfl ?_))
      skip
      refine W_region rfl ?_
      refine WL_is (X_addW rfl rfl rfl (by exact wrap_i64_in (by omega) (by omega))) rfl rfl rfl ?_
      refine WL_is (X_move rfl rfl) rfl rfl rfl ?_
      (repeat (first | refine WL_nil ?_ | refine Then_normal ?_))
      refine ⟨k + 1, ⟨(by repeat (first | exact SubE_nil | refine SubE_cons rfl ?_)), rfl, SubR.none _, rfl⟩, ⟨by omega, fun j hj => ?_⟩, by omega⟩
      rcases Nat.lt_or_ge j k with hj' | hj'
      · exact hgood j hj'
      · rw [show j = k from by omega]; exact hq
    | false =>
      refine WL_is (X_not rfl rfl) rfl rfl rfl ?_
      (repeat (first | refine WL_nil ?_ | refine Then_normal ?_ | refine W_seq ?_ | refine W_true rfl ?_))
      skip
      refine W_region rfl ?_
      refine WL_is (X_assign rfl rfl) rfl rfl rfl ?_
      (repeat (first | refine WL_nil ?_ | refine Then_normal ?_ | refine W_ret ?_ | refine Then_ret ?_ | refine inBlk_ret ?_))
      refine Body_end rfl rfl rfl (SubR.none _) ?_
      simp [allB_false hlt hq]
  · (repeat (first | refine W_seq ?_))
    refine W_region rfl ?_
    refine WL_is (X_lss_f rfl rfl rfl (by omega)) rfl rfl rfl ?_
    (repeat (first | refine WL_nil ?_ | refine Then_normal ?_ | refine W_seq ?_ | refine W_exit ?_ | refine Then_exit ?_ | refine inBlk_here ?_ | refine W_false rfl ?_))
    skip
    refine W_region rfl ?_
    refine WL_is (X_assign rfl rfl) rfl rfl rfl ?_
    (repeat (first | refine WL_nil ?_ | refine Then_normal ?_ | refine W_ret ?_))
    refine Body_end rfl rfl rfl (SubR.none _) ?_
    have hkl : k = l.length := by omega
    subst hkl
    simp [allB_iff.2 hgood]

set_option maxHeartbeats 400000 in
theorem check1_fn (h : PH) (i p : Int) : Does Try.prog 44 [.int .i64 i, .int .u8 p] [] h (Ret fun r _ _ => r = .bool (decide (p ≤ 7))) := by
  refine Does_of_W Try.func44 rfl (n := 7) rfl rfl (by simp only [argE, Nat.reduceAdd] <;> rfl) ?_
  (repeat (first | refine W_seq ?_))
  skip
  refine W_region rfl ?_
  refine WL_is (X_assign rfl rfl) rfl rfl rfl ?_
  (repeat (first | refine WL_nil ?_ | refine Then_normal ?_ | refine W_seq ?_))
  skip
  refine W_region rfl ?_
  refine WL_is (X_move rfl rfl) rfl rfl rfl ?_
  refine WL_is (X_leq rfl rfl rfl) rfl rfl rfl ?_
  refine WL_is (X_assign rfl rfl) rfl rfl rfl ?_
  (repeat (first | refine WL_nil ?_ | refine Then_normal ?_ | refine W_ret ?_))
  refine Body_end rfl rfl rfl (SubR.none _) ?_
  rfl

theorem goodB_perm {l : List (Int × Int)} {i : Nat} (hi : i < l.length) (h : ¬ l[i].2 ≤ 7) : goodB l i = false := by
  simp only [goodB, dif_pos hi, goodAt]; exact decide_eq_false (fun hc => h hc.1)
theorem goodB_zero {l : List (Int × Int)} {i : Nat} (hi : i < l.length) (h : l[i].2 ≤ 7) (h0 : i = 0) : goodB l i = true := by
  simp only [goodB, dif_pos hi, goodAt]; exact decide_eq_true ⟨h, fun _ => by omega⟩
theorem goodB_step {l : List (Int × Int)} {i : Nat} (hi : i < l.length) (h : l[i].2 ≤ 7) (h0 : i ≠ 0) : goodB l i = decide (l[i - 1].1 < l[i].1) := by
  simp only [goodB, dif_pos hi, goodAt]
  by_cases hc : l[i - 1].1 < l[i].1
  · rw [decide_eq_true hc]; exact decide_eq_true ⟨h, fun _ => hc⟩
  · rw [decide_eq_false hc]; exact decide_eq_false (fun x => hc (x.2 (by omega)))

set_option maxHeartbeats 400000 in
theorem named1_fn (h : PH) (l : List (Int × Int)) (lv : Value) (b : Nat) (hat : At h (.pointer (some ⟨b, 0, none⟩)) [lv]) (hv : Sl encN 2 h lv l) (hl : l.length ≤ 1000000) (i : Nat) (hi : i < l.length) :
    Does Try.prog 51 [.int .i64 (i : Int), .agg #[.int .u16 l[i].1, .int .u8 l[i].2], .pointer (some ⟨b, 0, none⟩)] [] h (Ret fun r _ _ => r = .bool (goodB l i)) := by
  refine Does_of_W Try.func51 rfl (n := 24) rfl rfl (by simp only [argE, Nat.reduceAdd] <;> rfl) ?_
  (repeat (first | refine W_seq ?_))
  skip
  refine W_region rfl ?_
  (refine WL_box rfl rfl rfl rfl rfl rfl ?_; intro b_)
  refine WL_is (X_assign rfl rfl) rfl rfl rfl ?_
  (repeat (first | refine WL_nil ?_ | refine Then_normal ?_ | refine W_seq ?_))
  by_cases hp : l[i].2 ≤ 7
  · by_cases h0 : i = 0
    · skip
      refine W_draw0 18 rfl rfl rfl rfl ?_
      refine RG_val rfl rfl (fun _ => rfl) (fun _ => X_fieldAddr rfl rfl rfl (by simp only [Nat.zero_add] <;> rfl)) ?_
      refine RG_val rfl rfl (fun _ => rfl) (fun _ => X_load1 rfl rfl (by exact idx0) rfl rfl) ?_
      refine RG_val rfl rfl (fun _ => rfl) (fun _ => X_leq_t rfl rfl rfl (by omega)) ?_
      refine RG_val rfl rfl (fun _ => rfl) (fun _ => X_move rfl rfl) ?_
      refine RG_val rfl rfl (fun _ => rfl) (fun _ => X_move rfl rfl) ?_
      refine RG_val rfl rfl (fun _ => rfl) (fun _ => X_eql_t rfl rfl rfl (by omega)) ?_
      refine RG_val rfl rfl (fun _ => rfl) (fun _ => X_move rfl rfl) ?_
      refine RG_off rfl rfl (fun _ => rfl) ?_
      refine RG_off rfl rfl (fun _ => rfl) ?_
      refine RG_off rfl rfl (fun _ => rfl) ?_
      refine RG_off rfl rfl (fun _ => rfl) ?_
      refine RG_off rfl rfl (fun _ => rfl) ?_
      refine RG_off rfl rfl (fun _ => rfl) ?_
      refine RG_off rfl rfl (fun _ => rfl) ?_
      refine RG_off rfl rfl (fun _ => rfl) ?_
      refine RG_off rfl rfl (fun _ => rfl) ?_
      refine RG_val rfl rfl (fun _ => rfl) (fun _ => X_pick_t rfl rfl rfl) ?_
      refine RG_val rfl rfl (fun _ => rfl) (fun _ => X_pick_t rfl rfl rfl) ?_
      refine RG_nil ?_
      refine RG_endv rfl (fun vs => by simp only [endE, List.cons_append, List.nil_append] <;> rfl) (fun vs => rfl) ?_
      refine WL_is (X_assign rfl rfl) rfl rfl rfl ?_
      (repeat (first | refine WL_nil ?_ | refine Then_normal ?_ | refine W_ret ?_))
      refine Body_end rfl rfl rfl (SubR.none _) ?_
      rw [goodB_zero hi hp h0]
    · have e1 : ((i : Int) - 1).toNat = i - 1 := by omega
      rw [goodB_step hi hp h0]
      by_cases hlt : l[i - 1].1 < l[i].1
      · have hlt' : (l[((i : Int) - 1).toNat]'(by omega)).1 < l[i].1 := by simp only [e1]; exact hlt
        skip
        refine W_draw0 18 rfl rfl rfl rfl ?_
        refine RG_val rfl rfl (fun _ => rfl) (fun _ => X_fieldAddr rfl rfl rfl (by simp only [Nat.zero_add] <;> rfl)) ?_
        refine RG_val rfl rfl (fun _ => rfl) (fun _ => X_load1 rfl rfl (by exact idx0) rfl rfl) ?_
        refine RG_val rfl rfl (fun _ => rfl) (fun _ => X_leq_t rfl rfl rfl (by omega)) ?_
        refine RG_val rfl rfl (fun _ => rfl) (fun _ => X_move rfl rfl) ?_
        refine RG_val rfl rfl (fun _ => rfl) (fun _ => X_move rfl rfl) ?_
        refine RG_val rfl rfl (fun _ => rfl) (fun _ => X_eql_f rfl rfl rfl (by omega)) ?_
        refine RG_val rfl rfl (fun _ => rfl) (fun _ => X_move rfl rfl) ?_
        refine RG_val rfl rfl (fun _ => rfl) (fun _ => X_load1_at rfl rfl (by assumption) rfl rfl) ?_
        refine RG_val rfl rfl (fun _ => rfl) (fun _ => X_move rfl rfl) ?_
        refine RG_val rfl rfl (fun _ => rfl) (fun _ => X_subW rfl rfl rfl (by exact wrap_i64_in (by omega) (by omega))) ?_
        (refine RG_index_sl rfl rfl rfl (fun _ => rfl) (fun _ => rfl) (by assumption) (by omega) (by omega) rfl rfl (fun _ => rfl) ?_; intro p_ hp_)
        (refine RG_fieldAddr_at rfl (fun _ => rfl) (by assumption) rfl rfl rfl (fun _ => rfl) ?_; intro p_ hp_)
        refine RG_val rfl rfl (fun _ => rfl) (fun _ => X_load1_at rfl rfl (by assumption) rfl rfl) ?_
        refine RG_val rfl rfl (fun _ => rfl) (fun _ => X_fieldAddr rfl rfl rfl (by simp only [Nat.zero_add] <;> rfl)) ?_
        refine RG_val rfl rfl (fun _ => rfl) (fun _ => X_load1 rfl rfl (by exact idx0) rfl rfl) ?_
        refine RG_val rfl rfl (fun _ => rfl) (fun _ => X_lss_t rfl rfl rfl (by omega)) ?_
        refine RG_val rfl rfl (fun _ => rfl) (fun _ => X_pick_f rfl rfl rfl) ?_
        refine RG_val rfl rfl (fun _ => rfl) (fun _ => X_pick_t rfl rfl rfl) ?_
        refine RG_nil ?_
        refine RG_endv rfl (fun vs => by simp only [endE, List.cons_append, List.nil_append] <;> rfl) (fun vs => rfl) ?_
        refine WL_is (X_assign rfl rfl) rfl rfl rfl ?_
        (repeat (first | refine WL_nil ?_ | refine Then_normal ?_ | refine W_ret ?_))
        refine Body_end rfl rfl rfl (SubR.none _) ?_
        simp [hlt]
      · have hlt' : ¬ (l[((i : Int) - 1).toNat]'(by omega)).1 < l[i].1 := by simp only [e1]; exact hlt
        skip
        refine W_draw0 18 rfl rfl rfl rfl ?_
        refine RG_val rfl rfl (fun _ => rfl) (fun _ => X_fieldAddr rfl rfl rfl (by simp only [Nat.zero_add] <;> rfl)) ?_
        refine RG_val rfl rfl (fun _ => rfl) (fun _ => X_load1 rfl rfl (by exact idx0) rfl rfl) ?_
        refine RG_val rfl rfl (fun _ => rfl) (fun _ => X_leq_t rfl rfl rfl (by omega)) ?_
        refine RG_val rfl rfl (fun _ => rfl) (fun _ => X_move rfl rfl) ?_
        refine RG_val rfl rfl (fun _ => rfl) (fun _ => X_move rfl rfl) ?_
        refine RG_val rfl rfl (fun _ => rfl) (fun _ => X_eql_f rfl rfl rfl (by omega)) ?_
        refine RG_val rfl rfl (fun _ => rfl) (fun _ => X_move rfl rfl) ?_
        refine RG_val rfl rfl (fun _ => rfl) (fun _ => X_load1_at rfl rfl (by assumption) rfl rfl) ?_
        refine RG_val rfl rfl (fun _ => rfl) (fun _ => X_move rfl rfl) ?_
        refine RG_val rfl rfl (fun _ => rfl) (fun _ => X_subW rfl rfl rfl (by exact wrap_i64_in (by omega) (by omega))) ?_
        (refine RG_index_sl rfl rfl rfl (fun _ => rfl) (fun _ => rfl) (by assumption) (by omega) (by omega) rfl rfl (fun _ => rfl) ?_; intro p_ hp_)
        (refine RG_fieldAddr_at rfl (fun _ => rfl) (by assumption) rfl rfl rfl (fun _ => rfl) ?_; intro p_ hp_)
        refine RG_val rfl rfl (fun _ => rfl) (fun _ => X_load1_at rfl rfl (by assumption) rfl rfl) ?_
        refine RG_val rfl rfl (fun _ => rfl) (fun _ => X_fieldAddr rfl rfl rfl (by simp only [Nat.zero_add] <;> rfl)) ?_
        refine RG_val rfl rfl (fun _ => rfl) (fun _ => X_load1 rfl rfl (by exact idx0) rfl rfl) ?_
        refine RG_val rfl rfl (fun _ => rfl) (fun _ => X_lss_f rfl rfl rfl (by omega)) ?_
        refine RG_val rfl rfl (fun _ => rfl) (fun _ => X_pick_f rfl rfl rfl) ?_
        refine RG_val rfl rfl (fun _ => rfl) (fun _ => X_pick_t rfl rfl rfl) ?_
        refine RG_nil ?_
        refine RG_endv rfl (fun vs => by simp only [endE, List.cons_append, List.nil_append] <;> rfl) (fun vs => rfl) ?_
        refine WL_is (X_assign rfl rfl) rfl rfl rfl ?_
        (repeat (first | refine WL_nil ?_ | refine Then_normal ?_ | refine W_ret ?_))
        refine Body_end rfl rfl rfl (SubR.none _) ?_
        simp [hlt]
  · skip
    refine W_draw0 18 rfl rfl rfl rfl ?_
    refine RG_val rfl rfl (fun _ => rfl) (fun _ => X_fieldAddr rfl rfl rfl (by simp only [Nat.zero_add] <;> rfl)) ?_
    refine RG_val rfl rfl (fun _ => rfl) (fun _ => X_load1 rfl rfl (by exact idx0) rfl rfl) ?_
    refine RG_val rfl rfl (fun _ => rfl) (fun _ => X_leq_f rfl rfl rfl (by omega)) ?_
    refine RG_val rfl rfl (fun _ => rfl) (fun _ => X_move rfl rfl) ?_
    refine RG_off rfl rfl (fun _ => rfl) ?_
    refine RG_off rfl rfl (fun _ => rfl) ?_
    refine RG_off rfl rfl (fun _ => rfl) ?_
    refine RG_off rfl rfl (fun _ => rfl) ?_
    refine RG_off rfl rfl (fun _ => rfl) ?_
    refine RG_off rfl rfl (fun _ => rfl) ?_
    refine RG_off rfl rfl (fun _ => rfl) ?_
    refine RG_off rfl rfl (fun _ => rfl) ?_
    refine RG_off rfl rfl (fun _ => rfl) ?_
    refine RG_off rfl rfl (fun _ => rfl) ?_
    refine RG_off rfl rfl (fun _ => rfl) ?_
    refine RG_off rfl rfl (fun _ => rfl) ?_
    refine RG_off rfl rfl (fun _ => rfl) ?_
    refine RG_val rfl rfl (fun _ => rfl) (fun _ => X_pick_f rfl rfl rfl) ?_
    refine RG_nil ?_
    refine RG_endv rfl (fun vs => by simp only [endE, List.cons_append, List.nil_append] <;> rfl) (fun vs => rfl) ?_
    refine WL_is (X_assign rfl rfl) rfl rfl rfl ?_
    (repeat (first | refine WL_nil ?_ | refine Then_normal ?_ | refine W_ret ?_))
    refine Body_end rfl rfl rfl (SubR.none _) ?_
    rw [goodB_perm hi hp]

set_option maxHeartbeats 400000 in
theorem named_fn (h : PH) (l : List (Int × Int)) (v : Value) (hv : Sl encN 2 h v l) (hl : l.length ≤ 1000000) :
    Does Try.prog 45 [v] [] h (Ret fun r _ _ => r = .bool (namedB l)) := by
  obtain ⟨a, cap, hva⟩ := hv.shape
  subst hva
  refine Does_of_W Try.func45 rfl (n := 11) rfl rfl (by simp only [argE] <;> rfl) ?_
  (repeat (first | refine W_seq ?_))
  skip
  refine W_region rfl ?_
  (refine WL_box rfl rfl rfl rfl rfl rfl ?_; intro b_)
  refine WL_is (X_assign rfl rfl) rfl rfl rfl ?_
  (repeat (first | refine WL_nil ?_ | refine Then_normal ?_ | refine W_seq ?_))
  refine W_updE (UpdE.freeze 0 rfl) ?_
  rintro R' h' hle ⟨rfl, hb⟩
  have hat := At.of_blk hb
  have hv' := hv.mono hle
  simp only [List.eraseIdx_cons_zero]
  by_cases h4 : l.length ≤ 4
  · skip
    refine W_region rfl ?_
    refine WL_is (X_load1_at rfl rfl (by assumption) rfl rfl) rfl rfl rfl ?_
    refine WL_is (X_len_sl rfl rfl rfl (by assumption)) rfl rfl rfl ?_
    refine WL_is (X_leq_t rfl rfl rfl (by omega)) rfl rfl rfl ?_
    refine WL_is (X_move rfl rfl) rfl rfl rfl ?_
    refine WL_is (X_load1_at rfl rfl (by assumption) rfl rfl) rfl rfl rfl ?_
    refine WL_is (X_makeFunc rfl rfl rfl) rfl rfl rfl ?_
    try refine WL_off rfl rfl rfl ?_
    refine WL_is (X_callv rfl rfl rfl Try.func50 rfl (eachN_fn h' l _ hv' hl 51 _ [.pointer (some ⟨b_, 0, none⟩)] (goodB l) Try.func51 rfl (fun i hi => named1_fn h' l _ b_ hat hv' hl i hi))) rfl rfl rfl ?_
    refine WL_is (X_pick_t rfl rfl rfl) rfl rfl rfl ?_
    refine WL_is (X_assign rfl rfl) rfl rfl rfl ?_
    (repeat (first | refine WL_nil ?_ | refine Then_normal ?_ | refine W_ret ?_))
    refine Body_end rfl rfl rfl (SubR.none _) ?_
    simp [namedB, h4]
  · skip
    refine W_region rfl ?_
    refine WL_is (X_load1_at rfl rfl (by assumption) rfl rfl) rfl rfl rfl ?_
    refine WL_is (X_len_sl rfl rfl rfl (by assumption)) rfl rfl rfl ?_
    refine WL_is (X_leq_f rfl rfl rfl (by omega)) rfl rfl rfl ?_
    refine WL_is (X_move rfl rfl) rfl rfl rfl ?_
    refine WL_off rfl rfl rfl ?_
    refine WL_off rfl rfl rfl ?_
    try refine WL_off rfl rfl rfl ?_
    refine WL_is (X_pick_f rfl rfl rfl) rfl rfl rfl ?_
    refine WL_is (X_assign rfl rfl) rfl rfl rfl ?_
    (repeat (first | refine WL_nil ?_ | refine Then_normal ?_ | refine W_ret ?_))
    refine Body_end rfl rfl rfl (SubR.none _) ?_
    simp [namedB, h4]

/-- Two rows of named ones, compared one by one. -/
def sameB (l m : List (Int × Int)) : Bool := decide (l = m)
theorem eq_of_getElem {l m : List (Int × Int)} (h1 : l.length = m.length) (h2 : ∀ i (hi : i < l.length), l[i] = m[i]'(by omega)) : l = m := List.ext_getElem h1 (fun i hi _ => h2 i hi)
set_option maxHeartbeats 400000 in
theorem equalN_fn (h : PH) (l m : List (Int × Int)) (v u : Value) (hv : Sl encN 2 h v l) (hu : Sl encN 2 h u m) (hl : l.length ≤ 1000000) (hm : m.length ≤ 1000000) :
    Does Try.prog 46 [v, u] [] h (Ret fun r _ _ => r = .bool (decide (l = m))) := by
  refine Does_of_W Try.func46 rfl (n := 26) rfl rfl (by simp only [argE, Nat.reduceAdd] <;> rfl) ?_
  by_cases hlen : l.length = m.length
  · (repeat (first | refine W_seq ?_))
    refine W_region rfl ?_
    refine WL_is (X_assign rfl rfl) rfl rfl rfl ?_
    (repeat (first | refine WL_nil ?_ | refine Then_normal ?_ | refine W_seq ?_))
    skip
    refine W_region rfl ?_
    refine WL_is (X_move rfl rfl) rfl rfl rfl ?_
    refine WL_is (X_len_sl rfl rfl rfl (by assumption)) rfl rfl rfl ?_
    refine WL_is (X_move rfl rfl) rfl rfl rfl ?_
    refine WL_is (X_len_sl rfl rfl rfl (by assumption)) rfl rfl rfl ?_
    refine WL_is (X_neq_f rfl rfl rfl (by omega)) rfl rfl rfl ?_
    (repeat (first | refine WL_nil ?_ | refine Then_normal ?_ | refine W_seq ?_ | refine W_skip ?_ | refine W_false rfl ?_))
    skip
    refine W_region rfl ?_
    refine WL_is (X_move rfl rfl) rfl rfl rfl ?_
    refine WL_is (X_len_sl rfl rfl rfl (by assumption)) rfl rfl rfl ?_
    refine WL_is (X_move rfl rfl) rfl rfl rfl ?_
    (repeat (first | refine WL_nil ?_ | refine Then_normal ?_ | refine W_block ?_))
    refine W_loop (X := Nat) (L := fun k => ⟨[(13, .int .i64 (k : Int)), (12, .int .i64 (l.length : Int)), (0, v), (1, u)], [], [], h⟩) (p := fun k => k ≤ l.length ∧ ∀ j (hj : j < k) (hj' : j < l.length), l[j] = m[j]'(by omega)) (μ := fun k => l.length - k) 0 ⟨(by repeat (first | exact SubE_nil | refine SubE_cons rfl ?_)), rfl, SubR.refl _, rfl⟩ ⟨Nat.zero_le _, fun j hj => by omega⟩ ?_
    rintro k ⟨hk, hgood⟩
    by_cases hlt : k < l.length
    · have hlt' : k < m.length := by omega
      (repeat (first | refine W_seq ?_))
      refine W_region rfl ?_
      refine WL_is (X_lss_t rfl rfl rfl (by omega)) rfl rfl rfl ?_
      (repeat (first | refine WL_nil ?_ | refine Then_normal ?_ | refine W_seq ?_ | refine W_skip ?_ | refine W_block ?_ | refine W_true rfl ?_))
      skip
      refine W_region rfl ?_
      refine WL_is (X_move rfl rfl) rfl rfl rfl ?_
      refine WL_is (X_assign rfl rfl) rfl rfl rfl ?_
      (repeat (first | refine WL_nil ?_ | refine Then_normal ?_ | refine W_seq ?_))
      by_cases heq : l[k] = m[k]
      · have e1 : l[k].1 = m[k].1 := by rw [heq]
        have e2 : l[k].2 = m[k].2 := by rw [heq]
        have E1 : (!(l[k].1 == m[k].1 && (l[k].2 == m[k].2 && true))) = false := by simp [e1, e2]
        clear e1 e2
        skip
        refine W_draw0 9 rfl rfl rfl rfl ?_
        refine RG_val rfl rfl (fun _ => rfl) (fun _ => X_move rfl rfl) ?_
        refine RG_val rfl rfl (fun _ => rfl) (fun _ => X_move rfl rfl) ?_
        (refine RG_index_slN rfl rfl rfl (fun _ => rfl) (fun _ => rfl) (by assumption) (by omega) rfl rfl (fun _ => rfl) ?_; intro p_ hp_)
        refine RG_val rfl rfl (fun _ => rfl) (fun _ => X_loadA_at rfl rfl (by assumption) rfl rfl rfl) ?_
        refine RG_val rfl rfl (fun _ => rfl) (fun _ => X_move rfl rfl) ?_
        refine RG_val rfl rfl (fun _ => rfl) (fun _ => X_move rfl rfl) ?_
        (refine RG_index_slN rfl rfl rfl (fun _ => rfl) (fun _ => rfl) (by assumption) (by omega) rfl rfl (fun _ => rfl) ?_; intro p_ hp_)
        refine RG_val rfl rfl (fun _ => rfl) (fun _ => X_loadA_at rfl rfl (by assumption) rfl rfl rfl) ?_
        refine RG_val rfl rfl (fun _ => rfl) (fun _ => X_neA 8 heldOk guardOk rfl rfl rfl rfl rfl rfl rfl) ?_
        refine RG_nil ?_
        refine RG_endv rfl (fun vs => by simp only [endE, List.cons_append, List.nil_append] <;> rfl) (fun vs => rfl) ?_
        (repeat (first | refine WL_nil ?_ | refine Then_normal ?_))
        rw [E1]
        (repeat (first | refine Then_normal ?_ | refine W_skip ?_ | refine inBlk_normal ?_ | refine W_false rfl ?_))
        refine W_region rfl ?_
        refine WL_is (X_addW rfl rfl rfl (by exact wrap_i64_in (by omega) (by omega))) rfl rfl rfl ?_
        refine WL_is (X_move rfl rfl) rfl rfl rfl ?_
        (repeat (first | refine WL_nil ?_ | refine Then_normal ?_))
        refine ⟨k + 1, ⟨(by repeat (first | exact SubE_nil | refine SubE_cons rfl ?_)), rfl, SubR.refl _, rfl⟩, ⟨by omega, fun j hj hj' => ?_⟩, by omega⟩
        rcases Nat.lt_or_ge j k with hj2 | hj2
        · exact hgood j hj2 hj'
        · have : j = k := by omega
          subst this; exact heq
      · have E1 : (!(l[k].1 == m[k].1 && (l[k].2 == m[k].2 && true))) = true := by
          simp only [Bool.and_true, Bool.not_eq_true']
          cases hb : (l[k].1 == m[k].1 && l[k].2 == m[k].2) with
          | false => rfl
          | true =>
            simp only [Bool.and_eq_true, beq_iff_eq] at hb
            exact absurd (Prod.ext hb.1 hb.2) heq
        skip
        refine W_draw0 9 rfl rfl rfl rfl ?_
        refine RG_val rfl rfl (fun _ => rfl) (fun _ => X_move rfl rfl) ?_
        refine RG_val rfl rfl (fun _ => rfl) (fun _ => X_move rfl rfl) ?_
        (refine RG_index_slN rfl rfl rfl (fun _ => rfl) (fun _ => rfl) (by assumption) (by omega) rfl rfl (fun _ => rfl) ?_; intro p_ hp_)
        refine RG_val rfl rfl (fun _ => rfl) (fun _ => X_loadA_at rfl rfl (by assumption) rfl rfl rfl) ?_
        refine RG_val rfl rfl (fun _ => rfl) (fun _ => X_move rfl rfl) ?_
        refine RG_val rfl rfl (fun _ => rfl) (fun _ => X_move rfl rfl) ?_
        (refine RG_index_slN rfl rfl rfl (fun _ => rfl) (fun _ => rfl) (by assumption) (by omega) rfl rfl (fun _ => rfl) ?_; intro p_ hp_)
        refine RG_val rfl rfl (fun _ => rfl) (fun _ => X_loadA_at rfl rfl (by assumption) rfl rfl rfl) ?_
        refine RG_val rfl rfl (fun _ => rfl) (fun _ => X_neA 8 heldOk guardOk rfl rfl rfl rfl rfl rfl rfl) ?_
        refine RG_nil ?_
        refine RG_endv rfl (fun vs => by simp only [endE, List.cons_append, List.nil_append] <;> rfl) (fun vs => rfl) ?_
        (repeat (first | refine WL_nil ?_ | refine Then_normal ?_))
        rw [E1]
        (repeat (first | refine W_seq ?_ | refine W_true rfl ?_))
        refine W_region rfl ?_
        refine WL_is (X_assign rfl rfl) rfl rfl rfl ?_
        (repeat (first | refine WL_nil ?_ | refine Then_normal ?_ | refine W_ret ?_ | refine Then_ret ?_ | refine inBlk_ret ?_))
        refine Body_end rfl rfl rfl (SubR.none _) ?_
        rw [decide_eq_false]; intro hc; subst hc; exact heq rfl
    · (repeat (first | refine W_seq ?_))
      refine W_region rfl ?_
      refine WL_is (X_lss_f rfl rfl rfl (by omega)) rfl rfl rfl ?_
      (repeat (first | refine WL_nil ?_ | refine Then_normal ?_ | refine W_seq ?_ | refine W_exit ?_ | refine Then_exit ?_ | refine inBlk_here ?_ | refine W_false rfl ?_))
      skip
      refine W_region rfl ?_
      refine WL_is (X_assign rfl rfl) rfl rfl rfl ?_
      (repeat (first | refine WL_nil ?_ | refine Then_normal ?_ | refine W_ret ?_))
      refine Body_end rfl rfl rfl (SubR.none _) ?_
      have hkl : k = l.length := by omega
      subst hkl
      rw [decide_eq_true (eq_of_getElem hlen (fun i hi => hgood i hi hi))]
  · (repeat (first | refine W_seq ?_))
    refine W_region rfl ?_
    refine WL_is (X_assign rfl rfl) rfl rfl rfl ?_
    (repeat (first | refine WL_nil ?_ | refine Then_normal ?_ | refine W_seq ?_))
    skip
    refine W_region rfl ?_
    refine WL_is (X_move rfl rfl) rfl rfl rfl ?_
    refine WL_is (X_len_sl rfl rfl rfl (by assumption)) rfl rfl rfl ?_
    refine WL_is (X_move rfl rfl) rfl rfl rfl ?_
    refine WL_is (X_len_sl rfl rfl rfl (by assumption)) rfl rfl rfl ?_
    refine WL_is (X_neq_t rfl rfl rfl (by omega)) rfl rfl rfl ?_
    (repeat (first | refine WL_nil ?_ | refine Then_normal ?_ | refine W_seq ?_ | refine W_true rfl ?_))
    skip
    refine W_region rfl ?_
    refine WL_is (X_assign rfl rfl) rfl rfl rfl ?_
    (repeat (first | refine WL_nil ?_ | refine Then_normal ?_ | refine W_ret ?_ | refine Then_ret ?_))
    refine Body_end rfl rfl rfl (SubR.none _) ?_
    rw [decide_eq_false]; intro hc; subst hc; exact hlen rfl
end Go.Proofs.Ytcgmbfgmofcemaa
