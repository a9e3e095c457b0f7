/- Births: what may be, of attributes that nobody has bounded. -/
import Derived.Test.YtcgmbfgmofcemaaBirthE
namespace Go.Proofs.Ytcgmbfgmofcemaa
set_option maxRecDepth 4000
open Go Go.Par PH
def Acl.wide (a : Acl) : Prop := a.us.length ≤ 140737488355328 ∧ a.gs.length ≤ 140737488355328
structure Attr.wide (a : Attr) : Prop where
  acc : a.acc.wide
  df : a.df.wide
  xs : a.xs.length ≤ 140737488355328
  ks : ∀ x ∈ a.xs, x.1.size ≤ 9223372036854775807
attribute [local irreducible] W WL Does Exec Body Then inBlk RG WR row obj pblk
set_option maxHeartbeats 400000 in
theorem namedW_ref (h : PH) (l : List (Int × Int)) (v : Value) (hv : Sl encN 2 h v l) (hl : l.length ≤ 140737488355328) :
    Does Try.prog 42 [v] [] h (Ret fun r _ _ => r = .bool (namedB l)) := by
  refine Does_of_W Try.func42 rfl (n := 37) rfl rfl (by simp only [argE] <;> rfl) ?_
  (repeat (first | refine W_seq ?_))
  skip
  refine W_region rfl ?_
  refine WL_is (X_assign rfl rfl) rfl rfl rfl ?_
  (repeat (first | refine WL_nil ?_ | refine Then_normal ?_ | refine W_seq ?_))
  skip
  refine W_region rfl ?_
  refine WL_is (X_assign rfl rfl) rfl rfl rfl ?_
  (repeat (first | refine WL_nil ?_ | refine Then_normal ?_ | refine W_block ?_))
  refine W_loop (X := Nat) (L := fun k => ⟨[(3, .int .i64 (k : Int)), (0, v)], [], [], h⟩) (p := fun k => k ≤ l.length ∧ ∀ j, j < k → goodB l j = true) (μ := fun k => l.length - k) 0 ⟨(by repeat (first | exact SubE_nil | refine SubE_cons rfl ?_)), rfl, SubR.refl _, rfl⟩ ⟨Nat.zero_le _, fun j hj => by omega⟩ ?_
  rintro k ⟨hk, hgood⟩
  by_cases hlt : k < l.length
  · (repeat (first | refine W_seq ?_))
    refine W_region rfl ?_
    refine WL_is (X_move rfl rfl) rfl rfl rfl ?_
    refine WL_is (X_move rfl rfl) rfl rfl rfl ?_
    refine WL_is (X_len_sl rfl rfl rfl (by assumption)) rfl rfl rfl ?_
    refine WL_is (X_lss_t rfl rfl rfl (by omega)) rfl rfl rfl ?_
    (repeat (first | refine WL_nil ?_ | refine Then_normal ?_ | refine W_seq ?_ | refine W_skip ?_ | refine W_block ?_ | refine W_true rfl ?_))
    by_cases hperm : 7 < l[k].2
    · have hbad : goodB l k = false := by simp only [goodB, dif_pos hlt, goodAt]; exact decide_eq_false (fun hc => by omega)
      skip
      refine W_draw0 21 rfl rfl rfl rfl ?_
      refine RG_val rfl rfl (fun _ => rfl) (fun _ => X_move rfl rfl) ?_
      refine RG_val rfl rfl (fun _ => rfl) (fun _ => X_move rfl rfl) ?_
      (refine RG_index_slN rfl rfl rfl (fun _ => rfl) (fun _ => rfl) (by assumption) (by omega) rfl rfl (fun _ => rfl) ?_; intro p_ hp_)
      (refine RG_fieldAddr_at rfl (fun _ => rfl) (by assumption) rfl rfl rfl (fun _ => rfl) ?_; intro p_ hp_)
      refine RG_val rfl rfl (fun _ => rfl) (fun _ => X_load1_at rfl rfl (by assumption) rfl rfl) ?_
      refine RG_val rfl rfl (fun _ => rfl) (fun _ => X_gtr_t rfl rfl rfl (by omega)) ?_
      refine RG_val rfl rfl (fun _ => rfl) (fun _ => X_move rfl rfl) ?_
      refine RG_off rfl rfl (fun _ => rfl) ?_
      refine RG_off rfl rfl (fun _ => rfl) ?_
      refine RG_off rfl rfl (fun _ => rfl) ?_
      refine RG_off rfl rfl (fun _ => rfl) ?_
      refine RG_off rfl rfl (fun _ => rfl) ?_
      refine RG_off rfl rfl (fun _ => rfl) ?_
      refine RG_off rfl rfl (fun _ => rfl) ?_
      refine RG_off rfl rfl (fun _ => rfl) ?_
      refine RG_off rfl rfl (fun _ => rfl) ?_
      refine RG_off rfl rfl (fun _ => rfl) ?_
      refine RG_off rfl rfl (fun _ => rfl) ?_
      refine RG_off rfl rfl (fun _ => rfl) ?_
      refine RG_off rfl rfl (fun _ => rfl) ?_
      refine RG_off rfl rfl (fun _ => rfl) ?_
      refine RG_nil ?_
      refine RG_endv rfl (fun vs => by simp only [endE, List.cons_append, List.nil_append] <;> rfl) (fun vs => rfl) ?_
      refine WL_off rfl rfl rfl ?_
      refine WL_off rfl rfl rfl ?_
      refine WL_is (X_pick_t rfl rfl rfl) rfl rfl rfl ?_
      (repeat (first | refine WL_nil ?_ | refine Then_normal ?_ | refine W_seq ?_ | refine W_true rfl ?_))
      skip
      refine W_region rfl ?_
      refine WL_is (X_assign rfl rfl) rfl rfl rfl ?_
      (repeat (first | refine WL_nil ?_ | refine Then_normal ?_ | refine W_ret ?_ | refine Then_ret ?_ | refine inBlk_ret ?_))
      refine Body_end rfl rfl rfl (SubR.none _) ?_
      simp [namedB, allB_false hlt hbad]
    · by_cases h0 : k = 0
      · have hok : goodB l k = true := by simp only [goodB, dif_pos hlt, goodAt]; exact decide_eq_true ⟨by omega, fun _ => by omega⟩
        subst h0
        skip
        refine W_draw0 21 rfl rfl rfl rfl ?_
        refine RG_val rfl rfl (fun _ => rfl) (fun _ => X_move rfl rfl) ?_
        refine RG_val rfl rfl (fun _ => rfl) (fun _ => X_move rfl rfl) ?_
        (refine RG_index_slN rfl rfl rfl (fun _ => rfl) (fun _ => rfl) (by assumption) (by omega) rfl rfl (fun _ => rfl) ?_; intro p_ hp_)
        (refine RG_fieldAddr_at rfl (fun _ => rfl) (by assumption) rfl rfl rfl (fun _ => rfl) ?_; intro p_ hp_)
        refine RG_val rfl rfl (fun _ => rfl) (fun _ => X_load1_at rfl rfl (by assumption) rfl rfl) ?_
        refine RG_val rfl rfl (fun _ => rfl) (fun _ => X_gtr_f rfl rfl rfl (by omega)) ?_
        refine RG_val rfl rfl (fun _ => rfl) (fun _ => X_move rfl rfl) ?_
        refine RG_val rfl rfl (fun _ => rfl) (fun _ => X_move rfl rfl) ?_
        refine RG_val rfl rfl (fun _ => rfl) (fun _ => X_gtr_f rfl rfl rfl (by omega)) ?_
        refine RG_val rfl rfl (fun _ => rfl) (fun _ => X_move rfl rfl) ?_
        refine RG_off rfl rfl (fun _ => rfl) ?_
        refine RG_off rfl rfl (fun _ => rfl) ?_
        refine RG_off rfl rfl (fun _ => rfl) ?_
        refine RG_off rfl rfl (fun _ => rfl) ?_
        refine RG_off rfl rfl (fun _ => rfl) ?_
        refine RG_off rfl rfl (fun _ => rfl) ?_
        refine RG_off rfl rfl (fun _ => rfl) ?_
        refine RG_off rfl rfl (fun _ => rfl) ?_
        refine RG_off rfl rfl (fun _ => rfl) ?_
        refine RG_off rfl rfl (fun _ => rfl) ?_
        refine RG_off rfl rfl (fun _ => rfl) ?_
        refine RG_nil ?_
        refine RG_endv rfl (fun vs => by simp only [endE, List.cons_append, List.nil_append] <;> rfl) (fun vs => rfl) ?_
        refine WL_off rfl rfl rfl ?_
        refine WL_is (X_pick_f rfl rfl rfl) rfl rfl rfl ?_
        refine WL_is (X_pick_f rfl rfl rfl) rfl rfl rfl ?_
        (repeat (first | refine WL_nil ?_ | refine Then_normal ?_ | refine W_skip ?_ | refine inBlk_normal ?_ | refine W_false rfl ?_))
        skip
        refine W_region rfl ?_
        refine WL_is (X_move rfl rfl) rfl rfl rfl ?_
        refine WL_is (X_addW rfl rfl rfl (by exact wrap_i64_in (by omega) (by omega))) rfl rfl rfl ?_
        refine WL_is (X_assign rfl rfl) rfl rfl rfl ?_
        (repeat (first | refine WL_nil ?_ | refine Then_normal ?_))
        exact ⟨1, ⟨(by repeat (first | exact SubE_nil | refine SubE_cons rfl ?_)), rfl, SubR.refl _, rfl⟩, ⟨by omega, fun j hj => by rw [show j = 0 from by omega]; exact hok⟩, by omega⟩
      · have e1 : ((k : Int) - 1).toNat = k - 1 := by omega
        by_cases hle : l[k].1 ≤ l[k - 1].1
        · have hbad : goodB l k = false := by simp only [goodB, dif_pos hlt, goodAt]; exact decide_eq_false (fun hc => by have := hc.2 (by omega); omega)
          have hle' : l[k].1 ≤ (l[((k : Int) - 1).toNat]'(by omega)).1 := by simp only [e1]; exact hle
          skip
          refine W_draw0 21 rfl rfl rfl rfl ?_
          refine RG_val rfl rfl (fun _ => rfl) (fun _ => X_move rfl rfl) ?_
          refine RG_val rfl rfl (fun _ => rfl) (fun _ => X_move rfl rfl) ?_
          (refine RG_index_slN rfl rfl rfl (fun _ => rfl) (fun _ => rfl) (by assumption) (by omega) rfl rfl (fun _ => rfl) ?_; intro p_ hp_)
          (refine RG_fieldAddr_at rfl (fun _ => rfl) (by assumption) rfl rfl rfl (fun _ => rfl) ?_; intro p_ hp_)
          refine RG_val rfl rfl (fun _ => rfl) (fun _ => X_load1_at rfl rfl (by assumption) rfl rfl) ?_
          refine RG_val rfl rfl (fun _ => rfl) (fun _ => X_gtr_f rfl rfl rfl (by omega)) ?_
          refine RG_val rfl rfl (fun _ => rfl) (fun _ => X_move rfl rfl) ?_
          refine RG_val rfl rfl (fun _ => rfl) (fun _ => X_move rfl rfl) ?_
          refine RG_val rfl rfl (fun _ => rfl) (fun _ => X_gtr_t rfl rfl rfl (by omega)) ?_
          refine RG_val rfl rfl (fun _ => rfl) (fun _ => X_move rfl rfl) ?_
          refine RG_val rfl rfl (fun _ => rfl) (fun _ => X_move rfl rfl) ?_
          refine RG_val rfl rfl (fun _ => rfl) (fun _ => X_move rfl rfl) ?_
          refine RG_val rfl rfl (fun _ => rfl) (fun _ => X_subW rfl rfl rfl (by exact wrap_i64_in (by omega) (by omega))) ?_
          (refine RG_index_sl rfl rfl rfl (fun _ => rfl) (fun _ => rfl) (by assumption) (by omega) (by omega) rfl rfl (fun _ => rfl) ?_; intro p_ hp_)
          (refine RG_fieldAddr_at rfl (fun _ => rfl) (by assumption) rfl rfl rfl (fun _ => rfl) ?_; intro p_ hp_)
          refine RG_val rfl rfl (fun _ => rfl) (fun _ => X_load1_at rfl rfl (by assumption) rfl rfl) ?_
          refine RG_val rfl rfl (fun _ => rfl) (fun _ => X_move rfl rfl) ?_
          refine RG_val rfl rfl (fun _ => rfl) (fun _ => X_move rfl rfl) ?_
          (refine RG_index_slN rfl rfl rfl (fun _ => rfl) (fun _ => rfl) (by assumption) (by omega) rfl rfl (fun _ => rfl) ?_; intro p_ hp_)
          (refine RG_fieldAddr_at rfl (fun _ => rfl) (by assumption) rfl rfl rfl (fun _ => rfl) ?_; intro p_ hp_)
          refine RG_val rfl rfl (fun _ => rfl) (fun _ => X_load1_at rfl rfl (by assumption) rfl rfl) ?_
          refine RG_nil ?_
          refine RG_endv rfl (fun vs => by simp only [endE, List.cons_append, List.nil_append] <;> rfl) (fun vs => rfl) ?_
          refine WL_is (X_geq_t rfl rfl rfl (by omega)) rfl rfl rfl ?_
          refine WL_is (X_pick_t rfl rfl rfl) rfl rfl rfl ?_
          refine WL_is (X_pick_f rfl rfl rfl) rfl rfl rfl ?_
          (repeat (first | refine WL_nil ?_ | refine Then_normal ?_ | refine W_seq ?_ | refine W_true rfl ?_))
          skip
          refine W_region rfl ?_
          refine WL_is (X_assign rfl rfl) rfl rfl rfl ?_
          (repeat (first | refine WL_nil ?_ | refine Then_normal ?_ | refine W_ret ?_ | refine Then_ret ?_ | refine inBlk_ret ?_))
          refine Body_end rfl rfl rfl (SubR.none _) ?_
          simp [namedB, allB_false hlt hbad]
        · have hok : goodB l k = true := by simp only [goodB, dif_pos hlt, goodAt]; exact decide_eq_true ⟨by omega, fun _ => by omega⟩
          have hle' : ¬ l[k].1 ≤ (l[((k : Int) - 1).toNat]'(by omega)).1 := by simp only [e1]; exact hle
          skip
          refine W_draw0 21 rfl rfl rfl rfl ?_
          refine RG_val rfl rfl (fun _ => rfl) (fun _ => X_move rfl rfl) ?_
          refine RG_val rfl rfl (fun _ => rfl) (fun _ => X_move rfl rfl) ?_
          (refine RG_index_slN rfl rfl rfl (fun _ => rfl) (fun _ => rfl) (by assumption) (by omega) rfl rfl (fun _ => rfl) ?_; intro p_ hp_)
          (refine RG_fieldAddr_at rfl (fun _ => rfl) (by assumption) rfl rfl rfl (fun _ => rfl) ?_; intro p_ hp_)
          refine RG_val rfl rfl (fun _ => rfl) (fun _ => X_load1_at rfl rfl (by assumption) rfl rfl) ?_
          refine RG_val rfl rfl (fun _ => rfl) (fun _ => X_gtr_f rfl rfl rfl (by omega)) ?_
          refine RG_val rfl rfl (fun _ => rfl) (fun _ => X_move rfl rfl) ?_
          refine RG_val rfl rfl (fun _ => rfl) (fun _ => X_move rfl rfl) ?_
          refine RG_val rfl rfl (fun _ => rfl) (fun _ => X_gtr_t rfl rfl rfl (by omega)) ?_
          refine RG_val rfl rfl (fun _ => rfl) (fun _ => X_move rfl rfl) ?_
          refine RG_val rfl rfl (fun _ => rfl) (fun _ => X_move rfl rfl) ?_
          refine RG_val rfl rfl (fun _ => rfl) (fun _ => X_move rfl rfl) ?_
          refine RG_val rfl rfl (fun _ => rfl) (fun _ => X_subW rfl rfl rfl (by exact wrap_i64_in (by omega) (by omega))) ?_
          (refine RG_index_sl rfl rfl rfl (fun _ => rfl) (fun _ => rfl) (by assumption) (by omega) (by omega) rfl rfl (fun _ => rfl) ?_; intro p_ hp_)
          (refine RG_fieldAddr_at rfl (fun _ => rfl) (by assumption) rfl rfl rfl (fun _ => rfl) ?_; intro p_ hp_)
          refine RG_val rfl rfl (fun _ => rfl) (fun _ => X_load1_at rfl rfl (by assumption) rfl rfl) ?_
          refine RG_val rfl rfl (fun _ => rfl) (fun _ => X_move rfl rfl) ?_
          refine RG_val rfl rfl (fun _ => rfl) (fun _ => X_move rfl rfl) ?_
          (refine RG_index_slN rfl rfl rfl (fun _ => rfl) (fun _ => rfl) (by assumption) (by omega) rfl rfl (fun _ => rfl) ?_; intro p_ hp_)
          (refine RG_fieldAddr_at rfl (fun _ => rfl) (by assumption) rfl rfl rfl (fun _ => rfl) ?_; intro p_ hp_)
          refine RG_val rfl rfl (fun _ => rfl) (fun _ => X_load1_at rfl rfl (by assumption) rfl rfl) ?_
          refine RG_nil ?_
          refine RG_endv rfl (fun vs => by simp only [endE, List.cons_append, List.nil_append] <;> rfl) (fun vs => rfl) ?_
          refine WL_is (X_geq_f rfl rfl rfl (by omega)) rfl rfl rfl ?_
          refine WL_is (X_pick_t rfl rfl rfl) rfl rfl rfl ?_
          refine WL_is (X_pick_f rfl rfl rfl) rfl rfl rfl ?_
          (repeat (first | refine WL_nil ?_ | refine Then_normal ?_ | refine W_skip ?_ | refine inBlk_normal ?_ | refine W_false rfl ?_))
          skip
          refine W_region rfl ?_
          refine WL_is (X_move rfl rfl) rfl rfl rfl ?_
          refine WL_is (X_addW rfl rfl rfl (by exact wrap_i64_in (by omega) (by omega))) rfl rfl rfl ?_
          refine WL_is (X_assign rfl rfl) rfl rfl rfl ?_
          (repeat (first | refine WL_nil ?_ | refine Then_normal ?_))
          refine ⟨k + 1, ⟨(by repeat (first | exact SubE_nil | refine SubE_cons rfl ?_)), rfl, SubR.refl _, rfl⟩, ⟨by omega, fun j hj => ?_⟩, by omega⟩
          rcases Nat.lt_or_ge j k with hj' | hj'
          · exact hgood j hj'
          · rw [show j = k from by omega]; exact hok
  · (repeat (first | refine W_seq ?_))
    refine W_region rfl ?_
    refine WL_is (X_move rfl rfl) rfl rfl rfl ?_
    refine WL_is (X_move rfl rfl) rfl rfl rfl ?_
    refine WL_is (X_len_sl rfl rfl rfl (by assumption)) rfl rfl rfl ?_
    refine WL_is (X_lss_f rfl rfl rfl (by omega)) rfl rfl rfl ?_
    (repeat (first | refine WL_nil ?_ | refine Then_normal ?_ | refine W_seq ?_ | refine W_exit ?_ | refine Then_exit ?_ | refine inBlk_here ?_ | refine W_false rfl ?_))
    skip
    refine W_region rfl ?_
    refine WL_is (X_move rfl rfl) rfl rfl rfl ?_
    refine WL_is (X_len_sl rfl rfl rfl (by assumption)) rfl rfl rfl ?_
    refine WL_is (X_leq rfl rfl rfl) rfl rfl rfl ?_
    refine WL_is (X_assign rfl rfl) rfl rfl rfl ?_
    (repeat (first | refine WL_nil ?_ | refine Then_normal ?_ | refine W_ret ?_))
    refine Body_end rfl rfl rfl (SubR.none _) ?_
    have hkl : k = l.length := by omega
    subst hkl
    simp [namedB, allB_iff.2 hgood]; omega
set_option maxHeartbeats 400000 in
theorem sameW_ref (h : PH) (l m : List (Int × Int)) (v u : Value) (hv : Sl encN 2 h v l) (hu : Sl encN 2 h u m) (hl : l.length ≤ 140737488355328) (hm : m.length ≤ 140737488355328) :
    Does Try.prog 34 [v, u] [] h (Ret fun r _ _ => r = .bool (decide (l = m))) := by
  refine Does_of_W Try.func34 rfl (n := 26) rfl rfl (by simp only [argE, Nat.reduceAdd] <;> rfl) ?_
  by_cases hlen : l.length = m.length
  · (repeat (first | refine W_seq ?_))
    refine W_region rfl ?_
    refine WL_is (X_assign rfl rfl) rfl rfl rfl ?_
    (repeat (first | refine WL_nil ?_ | refine Then_normal ?_ | refine W_seq ?_))
    skip
    refine W_region rfl ?_
    refine WL_is (X_move rfl rfl) rfl rfl rfl ?_
    refine WL_is (X_len_sl rfl rfl rfl (by assumption)) rfl rfl rfl ?_
    refine WL_is (X_move rfl rfl) rfl rfl rfl ?_
    refine WL_is (X_len_sl rfl rfl rfl (by assumption)) rfl rfl rfl ?_
    refine WL_is (X_neq_f rfl rfl rfl (by omega)) rfl rfl rfl ?_
    (repeat (first | refine WL_nil ?_ | refine Then_normal ?_ | refine W_seq ?_ | refine W_skip ?_ | refine W_false rfl ?_))
    skip
    refine W_region rfl ?_
    refine WL_is (X_assign rfl rfl) rfl rfl rfl ?_
    (repeat (first | refine WL_nil ?_ | refine Then_normal ?_ | refine W_block ?_))
    refine W_loop (X := Nat) (L := fun k => ⟨[(5, .int .i64 (k : Int)), (0, v), (1, u)], [], [], h⟩) (p := fun k => k ≤ l.length ∧ ∀ j (hj : j < k) (hj' : j < l.length), l[j] = m[j]'(by omega)) (μ := fun k => l.length - k) 0 ⟨(by repeat (first | exact SubE_nil | refine SubE_cons rfl ?_)), rfl, SubR.refl _, rfl⟩ ⟨Nat.zero_le _, fun j hj => by omega⟩ ?_
    rintro k ⟨hk, hgood⟩
    by_cases hlt : k < l.length
    · have hlt' : k < m.length := by omega
      (repeat (first | refine W_seq ?_))
      refine W_region rfl ?_
      refine WL_is (X_move rfl rfl) rfl rfl rfl ?_
      refine WL_is (X_move rfl rfl) rfl rfl rfl ?_
      refine WL_is (X_len_sl rfl rfl rfl (by assumption)) rfl rfl rfl ?_
      refine WL_is (X_lss_t rfl rfl rfl (by omega)) rfl rfl rfl ?_
      (repeat (first | refine WL_nil ?_ | refine Then_normal ?_ | refine W_seq ?_ | refine W_skip ?_ | refine W_block ?_ | refine W_true rfl ?_))
      by_cases heq : l[k] = m[k]
      · have e1 : l[k].1 = m[k].1 := by rw [heq]
        have e2 : l[k].2 = m[k].2 := by rw [heq]
        have E1 : (!(l[k].1 == m[k].1 && (l[k].2 == m[k].2 && true))) = false := by simp [e1, e2]
        clear e1 e2
        skip
        refine W_draw0 8 rfl rfl rfl rfl ?_
        refine RG_val rfl rfl (fun _ => rfl) (fun _ => X_move rfl rfl) ?_
        refine RG_val rfl rfl (fun _ => rfl) (fun _ => X_move rfl rfl) ?_
        (refine RG_index_slN rfl rfl rfl (fun _ => rfl) (fun _ => rfl) (by assumption) (by omega) rfl rfl (fun _ => rfl) ?_; intro p_ hp_)
        refine RG_val rfl rfl (fun _ => rfl) (fun _ => X_loadA_at rfl rfl (by assumption) rfl rfl rfl) ?_
        refine RG_val rfl rfl (fun _ => rfl) (fun _ => X_move rfl rfl) ?_
        refine RG_val rfl rfl (fun _ => rfl) (fun _ => X_move rfl rfl) ?_
        (refine RG_index_slN rfl rfl rfl (fun _ => rfl) (fun _ => rfl) (by assumption) (by omega) rfl rfl (fun _ => rfl) ?_; intro p_ hp_)
        refine RG_val rfl rfl (fun _ => rfl) (fun _ => X_loadA_at rfl rfl (by assumption) rfl rfl rfl) ?_
        refine RG_nil ?_
        refine RG_endv rfl (fun vs => by simp only [endE, List.cons_append, List.nil_append] <;> rfl) (fun vs => rfl) ?_
        refine WL_is (X_neA 8 heldOk guardOk rfl rfl rfl rfl rfl rfl rfl) rfl rfl rfl ?_
        (repeat (first | refine WL_nil ?_ | refine Then_normal ?_))
        rw [E1]
        (repeat (first | refine Then_normal ?_ | refine W_skip ?_ | refine inBlk_normal ?_ | refine W_false rfl ?_))
        refine W_region rfl ?_
        refine WL_is (X_move rfl rfl) rfl rfl rfl ?_
        refine WL_is (X_addW rfl rfl rfl (by exact wrap_i64_in (by omega) (by omega))) rfl rfl rfl ?_
        refine WL_is (X_assign rfl rfl) rfl rfl rfl ?_
        (repeat (first | refine WL_nil ?_ | refine Then_normal ?_))
        refine ⟨k + 1, ⟨(by repeat (first | exact SubE_nil | refine SubE_cons rfl ?_)), rfl, SubR.refl _, rfl⟩, ⟨by omega, fun j hj hj' => ?_⟩, by omega⟩
        rcases Nat.lt_or_ge j k with hj2 | hj2
        · exact hgood j hj2 hj'
        · have : j = k := by omega
          subst this; exact heq
      · have E1 : (!(l[k].1 == m[k].1 && (l[k].2 == m[k].2 && true))) = true := by
          simp only [Bool.and_true, Bool.not_eq_true']
          cases hb : (l[k].1 == m[k].1 && l[k].2 == m[k].2) with
          | false => rfl
          | true =>
            simp only [Bool.and_eq_true, beq_iff_eq] at hb
            exact absurd (Prod.ext hb.1 hb.2) heq
        skip
        refine W_draw0 8 rfl rfl rfl rfl ?_
        refine RG_val rfl rfl (fun _ => rfl) (fun _ => X_move rfl rfl) ?_
        refine RG_val rfl rfl (fun _ => rfl) (fun _ => X_move rfl rfl) ?_
        (refine RG_index_slN rfl rfl rfl (fun _ => rfl) (fun _ => rfl) (by assumption) (by omega) rfl rfl (fun _ => rfl) ?_; intro p_ hp_)
        refine RG_val rfl rfl (fun _ => rfl) (fun _ => X_loadA_at rfl rfl (by assumption) rfl rfl rfl) ?_
        refine RG_val rfl rfl (fun _ => rfl) (fun _ => X_move rfl rfl) ?_
        refine RG_val rfl rfl (fun _ => rfl) (fun _ => X_move rfl rfl) ?_
        (refine RG_index_slN rfl rfl rfl (fun _ => rfl) (fun _ => rfl) (by assumption) (by omega) rfl rfl (fun _ => rfl) ?_; intro p_ hp_)
        refine RG_val rfl rfl (fun _ => rfl) (fun _ => X_loadA_at rfl rfl (by assumption) rfl rfl rfl) ?_
        refine RG_nil ?_
        refine RG_endv rfl (fun vs => by simp only [endE, List.cons_append, List.nil_append] <;> rfl) (fun vs => rfl) ?_
        refine WL_is (X_neA 8 heldOk guardOk rfl rfl rfl rfl rfl rfl rfl) rfl rfl rfl ?_
        (repeat (first | refine WL_nil ?_ | refine Then_normal ?_))
        rw [E1]
        (repeat (first | refine W_seq ?_ | refine W_true rfl ?_))
        refine W_region rfl ?_
        refine WL_is (X_assign rfl rfl) rfl rfl rfl ?_
        (repeat (first | refine WL_nil ?_ | refine Then_normal ?_ | refine W_ret ?_ | refine Then_ret ?_ | refine inBlk_ret ?_))
        refine Body_end rfl rfl rfl (SubR.none _) ?_
        rw [decide_eq_false]; intro hc; subst hc; exact heq rfl
    · (repeat (first | refine W_seq ?_))
      refine W_region rfl ?_
      refine WL_is (X_move rfl rfl) rfl rfl rfl ?_
      refine WL_is (X_move rfl rfl) rfl rfl rfl ?_
      refine WL_is (X_len_sl rfl rfl rfl (by assumption)) rfl rfl rfl ?_
      refine WL_is (X_lss_f rfl rfl rfl (by omega)) rfl rfl rfl ?_
      (repeat (first | refine WL_nil ?_ | refine Then_normal ?_ | refine W_seq ?_ | refine W_exit ?_ | refine Then_exit ?_ | refine inBlk_here ?_ | refine W_false rfl ?_))
      skip
      refine W_region rfl ?_
      refine WL_is (X_assign rfl rfl) rfl rfl rfl ?_
      (repeat (first | refine WL_nil ?_ | refine Then_normal ?_ | refine W_ret ?_))
      refine Body_end rfl rfl rfl (SubR.none _) ?_
      have hkl : k = l.length := by omega
      subst hkl
      rw [decide_eq_true (eq_of_getElem hlen (fun i hi => hgood i hi hi))]
  · (repeat (first | refine W_seq ?_))
    refine W_region rfl ?_
    refine WL_is (X_assign rfl rfl) rfl rfl rfl ?_
    (repeat (first | refine WL_nil ?_ | refine Then_normal ?_ | refine W_seq ?_))
    skip
    refine W_region rfl ?_
    refine WL_is (X_move rfl rfl) rfl rfl rfl ?_
    refine WL_is (X_len_sl rfl rfl rfl (by assumption)) rfl rfl rfl ?_
    refine WL_is (X_move rfl rfl) rfl rfl rfl ?_
    refine WL_is (X_len_sl rfl rfl rfl (by assumption)) rfl rfl rfl ?_
    refine WL_is (X_neq_t rfl rfl rfl (by omega)) rfl rfl rfl ?_
    (repeat (first | refine WL_nil ?_ | refine Then_normal ?_ | refine W_seq ?_ | refine W_true rfl ?_))
    skip
    refine W_region rfl ?_
    refine WL_is (X_assign rfl rfl) rfl rfl rfl ?_
    (repeat (first | refine WL_nil ?_ | refine Then_normal ?_ | refine W_ret ?_ | refine Then_ret ?_))
    refine Body_end rfl rfl rfl (SubR.none _) ?_
    rw [decide_eq_false]; intro hc; subst hc; exact hlen rfl
set_option maxHeartbeats 1000000 in
theorem mayW_ref (h : PH) (a : Acl) (v : Value) (hv : AclV h v a) (hs : a.wide) (hok : a.Ok) : Does Try.prog 32 [v] [] h (Ret fun r _ _ => r = .bool a.may) := by
  have hm0 := hok.m
  unfold u8 at hm0
  obtain ⟨u, g, rfl, hu, hg⟩ := hv
  obtain ⟨o, gg, t, us, gs, hm, m⟩ := a
  obtain ⟨hs1, hs2⟩ := hs
  simp only [aclV] at *
  have c1 := namedW_ref h us u hu (by omega)
  have c2 := namedW_ref h gs g hg (by omega)
  refine Does_of_W Try.func32 rfl (n := 52) rfl rfl (by simp only [argE] <;> rfl) ?_
  by_cases h1 : o ≤ 7
  · by_cases h2 : gg ≤ 7
    · by_cases h3 : t ≤ 7
      · by_cases h4 : m ≤ 7
        · cases h5 : namedB us with
          | true =>
            rw [h5] at c1
            cases h6 : namedB gs with
            | true =>
              rw [h6] at c2
              cases hm with
              | true =>
                (repeat (first | refine W_seq ?_))
                skip
                refine W_region rfl ?_
                (refine WL_box rfl rfl rfl rfl rfl rfl ?_; intro b_)
                refine WL_is (X_assign rfl rfl) rfl rfl rfl ?_
                (repeat (first | refine WL_nil ?_ | refine Then_normal ?_ | refine W_seq ?_))
                skip
                refine W_region rfl ?_
                refine WL_is (X_fieldAddr rfl rfl rfl (by simp only [Nat.zero_add] <;> rfl)) rfl rfl rfl ?_
                refine WL_is (X_load1 rfl rfl (by exact idx0) rfl rfl) rfl rfl rfl ?_
                refine WL_is (X_gtr_f rfl rfl rfl (by omega)) rfl rfl rfl ?_
                refine WL_is (X_move rfl rfl) rfl rfl rfl ?_
                refine WL_is (X_fieldAddr rfl rfl rfl (by simp only [Nat.zero_add] <;> rfl)) rfl rfl rfl ?_
                refine WL_is (X_load1 rfl rfl (by exact idx0) rfl rfl) rfl rfl rfl ?_
                refine WL_is (X_gtr_f rfl rfl rfl (by omega)) rfl rfl rfl ?_
                refine WL_is (X_pick_f rfl rfl rfl) rfl rfl rfl ?_
                refine WL_is (X_move rfl rfl) rfl rfl rfl ?_
                refine WL_is (X_fieldAddr rfl rfl rfl (by simp only [Nat.zero_add] <;> rfl)) rfl rfl rfl ?_
                refine WL_is (X_load1 rfl rfl (by exact idx0) rfl rfl) rfl rfl rfl ?_
                refine WL_is (X_gtr_f rfl rfl rfl (by omega)) rfl rfl rfl ?_
                refine WL_is (X_pick_f rfl rfl rfl) rfl rfl rfl ?_
                refine WL_is (X_move rfl rfl) rfl rfl rfl ?_
                refine WL_is (X_fieldAddr rfl rfl rfl (by simp only [Nat.zero_add] <;> rfl)) rfl rfl rfl ?_
                refine WL_is (X_load1 rfl rfl (by exact idx0) rfl rfl) rfl rfl rfl ?_
                refine WL_is (X_gtr_f rfl rfl rfl (by omega)) rfl rfl rfl ?_
                refine WL_is (X_pick_f rfl rfl rfl) rfl rfl rfl ?_
                refine WL_is (X_move rfl rfl) rfl rfl rfl ?_
                refine WL_is (X_fieldAddr rfl rfl rfl (by simp only [Nat.zero_add] <;> rfl)) rfl rfl rfl ?_
                refine WL_is (X_load1 rfl rfl (by exact idx0) rfl rfl) rfl rfl rfl ?_
                refine WL_is (X_callv rfl rfl rfl Try.func42 rfl (by assumption)) rfl rfl rfl ?_
                refine WL_is (X_not rfl rfl) rfl rfl rfl ?_
                refine WL_is (X_pick_f rfl rfl rfl) rfl rfl rfl ?_
                refine WL_is (X_move rfl rfl) rfl rfl rfl ?_
                refine WL_is (X_fieldAddr rfl rfl rfl (by simp only [Nat.zero_add] <;> rfl)) rfl rfl rfl ?_
                refine WL_is (X_load1 rfl rfl (by exact idx0) rfl rfl) rfl rfl rfl ?_
                refine WL_is (X_callv rfl rfl rfl Try.func42 rfl (by assumption)) rfl rfl rfl ?_
                refine WL_is (X_not rfl rfl) rfl rfl rfl ?_
                refine WL_is (X_pick_f rfl rfl rfl) rfl rfl rfl ?_
                (repeat (first | refine WL_nil ?_ | refine Then_normal ?_ | refine W_seq ?_ | refine W_skip ?_ | refine W_false rfl ?_))
                skip
                refine W_region rfl ?_
                refine WL_is (X_fieldAddr rfl rfl rfl (by simp only [Nat.zero_add] <;> rfl)) rfl rfl rfl ?_
                refine WL_is (X_load1 rfl rfl (by exact idx0) rfl rfl) rfl rfl rfl ?_
                refine WL_is (X_move rfl rfl) rfl rfl rfl ?_
                refine WL_off rfl rfl rfl ?_
                refine WL_off rfl rfl rfl ?_
                refine WL_off rfl rfl rfl ?_
                refine WL_off rfl rfl rfl ?_
                refine WL_off rfl rfl rfl ?_
                refine WL_off rfl rfl rfl ?_
                refine WL_off rfl rfl rfl ?_
                refine WL_off rfl rfl rfl ?_
                refine WL_off rfl rfl rfl ?_
                refine WL_off rfl rfl rfl ?_
                refine WL_off rfl rfl rfl ?_
                refine WL_off rfl rfl rfl ?_
                refine WL_off rfl rfl rfl ?_
                refine WL_off rfl rfl rfl ?_
                refine WL_off rfl rfl rfl ?_
                refine WL_is (X_pick_t rfl rfl rfl) rfl rfl rfl ?_
                refine WL_is (X_assign rfl rfl) rfl rfl rfl ?_
                (repeat (first | refine WL_nil ?_ | refine Then_normal ?_ | refine W_ret ?_))
                refine Body_end rfl rfl rfl (SubR.none _) ?_
                simp [Acl.may, Acl.lone, Acl.p7, allB, h1, h2, h3, h4, h5, h6]
              | false =>
                by_cases h7 : m = 0
                · by_cases h8 : us.length = 0
                  · by_cases h9 : gs.length = 0
                    · (repeat (first | refine W_seq ?_))
                      skip
                      refine W_region rfl ?_
                      (refine WL_box rfl rfl rfl rfl rfl rfl ?_; intro b_)
                      refine WL_is (X_assign rfl rfl) rfl rfl rfl ?_
                      (repeat (first | refine WL_nil ?_ | refine Then_normal ?_ | refine W_seq ?_))
                      skip
                      refine W_region rfl ?_
                      refine WL_is (X_fieldAddr rfl rfl rfl (by simp only [Nat.zero_add] <;> rfl)) rfl rfl rfl ?_
                      refine WL_is (X_load1 rfl rfl (by exact idx0) rfl rfl) rfl rfl rfl ?_
                      refine WL_is (X_gtr_f rfl rfl rfl (by omega)) rfl rfl rfl ?_
                      refine WL_is (X_move rfl rfl) rfl rfl rfl ?_
                      refine WL_is (X_fieldAddr rfl rfl rfl (by simp only [Nat.zero_add] <;> rfl)) rfl rfl rfl ?_
                      refine WL_is (X_load1 rfl rfl (by exact idx0) rfl rfl) rfl rfl rfl ?_
                      refine WL_is (X_gtr_f rfl rfl rfl (by omega)) rfl rfl rfl ?_
                      refine WL_is (X_pick_f rfl rfl rfl) rfl rfl rfl ?_
                      refine WL_is (X_move rfl rfl) rfl rfl rfl ?_
                      refine WL_is (X_fieldAddr rfl rfl rfl (by simp only [Nat.zero_add] <;> rfl)) rfl rfl rfl ?_
                      refine WL_is (X_load1 rfl rfl (by exact idx0) rfl rfl) rfl rfl rfl ?_
                      refine WL_is (X_gtr_f rfl rfl rfl (by omega)) rfl rfl rfl ?_
                      refine WL_is (X_pick_f rfl rfl rfl) rfl rfl rfl ?_
                      refine WL_is (X_move rfl rfl) rfl rfl rfl ?_
                      refine WL_is (X_fieldAddr rfl rfl rfl (by simp only [Nat.zero_add] <;> rfl)) rfl rfl rfl ?_
                      refine WL_is (X_load1 rfl rfl (by exact idx0) rfl rfl) rfl rfl rfl ?_
                      refine WL_is (X_gtr_f rfl rfl rfl (by omega)) rfl rfl rfl ?_
                      refine WL_is (X_pick_f rfl rfl rfl) rfl rfl rfl ?_
                      refine WL_is (X_move rfl rfl) rfl rfl rfl ?_
                      refine WL_is (X_fieldAddr rfl rfl rfl (by simp only [Nat.zero_add] <;> rfl)) rfl rfl rfl ?_
                      refine WL_is (X_load1 rfl rfl (by exact idx0) rfl rfl) rfl rfl rfl ?_
                      refine WL_is (X_callv rfl rfl rfl Try.func42 rfl (by assumption)) rfl rfl rfl ?_
                      refine WL_is (X_not rfl rfl) rfl rfl rfl ?_
                      refine WL_is (X_pick_f rfl rfl rfl) rfl rfl rfl ?_
                      refine WL_is (X_move rfl rfl) rfl rfl rfl ?_
                      refine WL_is (X_fieldAddr rfl rfl rfl (by simp only [Nat.zero_add] <;> rfl)) rfl rfl rfl ?_
                      refine WL_is (X_load1 rfl rfl (by exact idx0) rfl rfl) rfl rfl rfl ?_
                      refine WL_is (X_callv rfl rfl rfl Try.func42 rfl (by assumption)) rfl rfl rfl ?_
                      refine WL_is (X_not rfl rfl) rfl rfl rfl ?_
                      refine WL_is (X_pick_f rfl rfl rfl) rfl rfl rfl ?_
                      (repeat (first | refine WL_nil ?_ | refine Then_normal ?_ | refine W_seq ?_ | refine W_skip ?_ | refine W_false rfl ?_))
                      skip
                      refine W_region rfl ?_
                      refine WL_is (X_fieldAddr rfl rfl rfl (by simp only [Nat.zero_add] <;> rfl)) rfl rfl rfl ?_
                      refine WL_is (X_load1 rfl rfl (by exact idx0) rfl rfl) rfl rfl rfl ?_
                      refine WL_is (X_move rfl rfl) rfl rfl rfl ?_
                      refine WL_is (X_fieldAddr rfl rfl rfl (by simp only [Nat.zero_add] <;> rfl)) rfl rfl rfl ?_
                      refine WL_is (X_load1 rfl rfl (by exact idx0) rfl rfl) rfl rfl rfl ?_
                      refine WL_is (X_eql_t rfl rfl rfl (by omega)) rfl rfl rfl ?_
                      refine WL_is (X_move rfl rfl) rfl rfl rfl ?_
                      refine WL_is (X_fieldAddr rfl rfl rfl (by simp only [Nat.zero_add] <;> rfl)) rfl rfl rfl ?_
                      refine WL_is (X_load1 rfl rfl (by exact idx0) rfl rfl) rfl rfl rfl ?_
                      refine WL_is (X_len_sl rfl rfl rfl (by assumption)) rfl rfl rfl ?_
                      refine WL_is (X_eql_t rfl rfl rfl (by omega)) rfl rfl rfl ?_
                      refine WL_is (X_pick_t rfl rfl rfl) rfl rfl rfl ?_
                      refine WL_is (X_move rfl rfl) rfl rfl rfl ?_
                      refine WL_is (X_fieldAddr rfl rfl rfl (by simp only [Nat.zero_add] <;> rfl)) rfl rfl rfl ?_
                      refine WL_is (X_load1 rfl rfl (by exact idx0) rfl rfl) rfl rfl rfl ?_
                      refine WL_is (X_len_sl rfl rfl rfl (by assumption)) rfl rfl rfl ?_
                      refine WL_is (X_eql_t rfl rfl rfl (by omega)) rfl rfl rfl ?_
                      refine WL_is (X_pick_t rfl rfl rfl) rfl rfl rfl ?_
                      refine WL_is (X_pick_f rfl rfl rfl) rfl rfl rfl ?_
                      refine WL_is (X_assign rfl rfl) rfl rfl rfl ?_
                      (repeat (first | refine WL_nil ?_ | refine Then_normal ?_ | refine W_ret ?_))
                      refine Body_end rfl rfl rfl (SubR.none _) ?_
                      simp [Acl.may, Acl.lone, Acl.p7, allB, h1, h2, h3, h5, h6, h7, h8, h9]
                    · (repeat (first | refine W_seq ?_))
                      skip
                      refine W_region rfl ?_
                      (refine WL_box rfl rfl rfl rfl rfl rfl ?_; intro b_)
                      refine WL_is (X_assign rfl rfl) rfl rfl rfl ?_
                      (repeat (first | refine WL_nil ?_ | refine Then_normal ?_ | refine W_seq ?_))
                      skip
                      refine W_region rfl ?_
                      refine WL_is (X_fieldAddr rfl rfl rfl (by simp only [Nat.zero_add] <;> rfl)) rfl rfl rfl ?_
                      refine WL_is (X_load1 rfl rfl (by exact idx0) rfl rfl) rfl rfl rfl ?_
                      refine WL_is (X_gtr_f rfl rfl rfl (by omega)) rfl rfl rfl ?_
                      refine WL_is (X_move rfl rfl) rfl rfl rfl ?_
                      refine WL_is (X_fieldAddr rfl rfl rfl (by simp only [Nat.zero_add] <;> rfl)) rfl rfl rfl ?_
                      refine WL_is (X_load1 rfl rfl (by exact idx0) rfl rfl) rfl rfl rfl ?_
                      refine WL_is (X_gtr_f rfl rfl rfl (by omega)) rfl rfl rfl ?_
                      refine WL_is (X_pick_f rfl rfl rfl) rfl rfl rfl ?_
                      refine WL_is (X_move rfl rfl) rfl rfl rfl ?_
                      refine WL_is (X_fieldAddr rfl rfl rfl (by simp only [Nat.zero_add] <;> rfl)) rfl rfl rfl ?_
                      refine WL_is (X_load1 rfl rfl (by exact idx0) rfl rfl) rfl rfl rfl ?_
                      refine WL_is (X_gtr_f rfl rfl rfl (by omega)) rfl rfl rfl ?_
                      refine WL_is (X_pick_f rfl rfl rfl) rfl rfl rfl ?_
                      refine WL_is (X_move rfl rfl) rfl rfl rfl ?_
                      refine WL_is (X_fieldAddr rfl rfl rfl (by simp only [Nat.zero_add] <;> rfl)) rfl rfl rfl ?_
                      refine WL_is (X_load1 rfl rfl (by exact idx0) rfl rfl) rfl rfl rfl ?_
                      refine WL_is (X_gtr_f rfl rfl rfl (by omega)) rfl rfl rfl ?_
                      refine WL_is (X_pick_f rfl rfl rfl) rfl rfl rfl ?_
                      refine WL_is (X_move rfl rfl) rfl rfl rfl ?_
                      refine WL_is (X_fieldAddr rfl rfl rfl (by simp only [Nat.zero_add] <;> rfl)) rfl rfl rfl ?_
                      refine WL_is (X_load1 rfl rfl (by exact idx0) rfl rfl) rfl rfl rfl ?_
                      refine WL_is (X_callv rfl rfl rfl Try.func42 rfl (by assumption)) rfl rfl rfl ?_
                      refine WL_is (X_not rfl rfl) rfl rfl rfl ?_
                      refine WL_is (X_pick_f rfl rfl rfl) rfl rfl rfl ?_
                      refine WL_is (X_move rfl rfl) rfl rfl rfl ?_
                      refine WL_is (X_fieldAddr rfl rfl rfl (by simp only [Nat.zero_add] <;> rfl)) rfl rfl rfl ?_
                      refine WL_is (X_load1 rfl rfl (by exact idx0) rfl rfl) rfl rfl rfl ?_
                      refine WL_is (X_callv rfl rfl rfl Try.func42 rfl (by assumption)) rfl rfl rfl ?_
                      refine WL_is (X_not rfl rfl) rfl rfl rfl ?_
                      refine WL_is (X_pick_f rfl rfl rfl) rfl rfl rfl ?_
                      (repeat (first | refine WL_nil ?_ | refine Then_normal ?_ | refine W_seq ?_ | refine W_skip ?_ | refine W_false rfl ?_))
                      skip
                      refine W_region rfl ?_
                      refine WL_is (X_fieldAddr rfl rfl rfl (by simp only [Nat.zero_add] <;> rfl)) rfl rfl rfl ?_
                      refine WL_is (X_load1 rfl rfl (by exact idx0) rfl rfl) rfl rfl rfl ?_
                      refine WL_is (X_move rfl rfl) rfl rfl rfl ?_
                      refine WL_is (X_fieldAddr rfl rfl rfl (by simp only [Nat.zero_add] <;> rfl)) rfl rfl rfl ?_
                      refine WL_is (X_load1 rfl rfl (by exact idx0) rfl rfl) rfl rfl rfl ?_
                      refine WL_is (X_eql_t rfl rfl rfl (by omega)) rfl rfl rfl ?_
                      refine WL_is (X_move rfl rfl) rfl rfl rfl ?_
                      refine WL_is (X_fieldAddr rfl rfl rfl (by simp only [Nat.zero_add] <;> rfl)) rfl rfl rfl ?_
                      refine WL_is (X_load1 rfl rfl (by exact idx0) rfl rfl) rfl rfl rfl ?_
                      refine WL_is (X_len_sl rfl rfl rfl (by assumption)) rfl rfl rfl ?_
                      refine WL_is (X_eql_t rfl rfl rfl (by omega)) rfl rfl rfl ?_
                      refine WL_is (X_pick_t rfl rfl rfl) rfl rfl rfl ?_
                      refine WL_is (X_move rfl rfl) rfl rfl rfl ?_
                      refine WL_is (X_fieldAddr rfl rfl rfl (by simp only [Nat.zero_add] <;> rfl)) rfl rfl rfl ?_
                      refine WL_is (X_load1 rfl rfl (by exact idx0) rfl rfl) rfl rfl rfl ?_
                      refine WL_is (X_len_sl rfl rfl rfl (by assumption)) rfl rfl rfl ?_
                      refine WL_is (X_eql_f rfl rfl rfl (by omega)) rfl rfl rfl ?_
                      refine WL_is (X_pick_t rfl rfl rfl) rfl rfl rfl ?_
                      refine WL_is (X_pick_f rfl rfl rfl) rfl rfl rfl ?_
                      refine WL_is (X_assign rfl rfl) rfl rfl rfl ?_
                      (repeat (first | refine WL_nil ?_ | refine Then_normal ?_ | refine W_ret ?_))
                      refine Body_end rfl rfl rfl (SubR.none _) ?_
                      simp [Acl.may, Acl.lone, Acl.p7, allB, h9]
                  · (repeat (first | refine W_seq ?_))
                    skip
                    refine W_region rfl ?_
                    (refine WL_box rfl rfl rfl rfl rfl rfl ?_; intro b_)
                    refine WL_is (X_assign rfl rfl) rfl rfl rfl ?_
                    (repeat (first | refine WL_nil ?_ | refine Then_normal ?_ | refine W_seq ?_))
                    skip
                    refine W_region rfl ?_
                    refine WL_is (X_fieldAddr rfl rfl rfl (by simp only [Nat.zero_add] <;> rfl)) rfl rfl rfl ?_
                    refine WL_is (X_load1 rfl rfl (by exact idx0) rfl rfl) rfl rfl rfl ?_
                    refine WL_is (X_gtr_f rfl rfl rfl (by omega)) rfl rfl rfl ?_
                    refine WL_is (X_move rfl rfl) rfl rfl rfl ?_
                    refine WL_is (X_fieldAddr rfl rfl rfl (by simp only [Nat.zero_add] <;> rfl)) rfl rfl rfl ?_
                    refine WL_is (X_load1 rfl rfl (by exact idx0) rfl rfl) rfl rfl rfl ?_
                    refine WL_is (X_gtr_f rfl rfl rfl (by omega)) rfl rfl rfl ?_
                    refine WL_is (X_pick_f rfl rfl rfl) rfl rfl rfl ?_
                    refine WL_is (X_move rfl rfl) rfl rfl rfl ?_
                    refine WL_is (X_fieldAddr rfl rfl rfl (by simp only [Nat.zero_add] <;> rfl)) rfl rfl rfl ?_
                    refine WL_is (X_load1 rfl rfl (by exact idx0) rfl rfl) rfl rfl rfl ?_
                    refine WL_is (X_gtr_f rfl rfl rfl (by omega)) rfl rfl rfl ?_
                    refine WL_is (X_pick_f rfl rfl rfl) rfl rfl rfl ?_
                    refine WL_is (X_move rfl rfl) rfl rfl rfl ?_
                    refine WL_is (X_fieldAddr rfl rfl rfl (by simp only [Nat.zero_add] <;> rfl)) rfl rfl rfl ?_
                    refine WL_is (X_load1 rfl rfl (by exact idx0) rfl rfl) rfl rfl rfl ?_
                    refine WL_is (X_gtr_f rfl rfl rfl (by omega)) rfl rfl rfl ?_
                    refine WL_is (X_pick_f rfl rfl rfl) rfl rfl rfl ?_
                    refine WL_is (X_move rfl rfl) rfl rfl rfl ?_
                    refine WL_is (X_fieldAddr rfl rfl rfl (by simp only [Nat.zero_add] <;> rfl)) rfl rfl rfl ?_
                    refine WL_is (X_load1 rfl rfl (by exact idx0) rfl rfl) rfl rfl rfl ?_
                    refine WL_is (X_callv rfl rfl rfl Try.func42 rfl (by assumption)) rfl rfl rfl ?_
                    refine WL_is (X_not rfl rfl) rfl rfl rfl ?_
                    refine WL_is (X_pick_f rfl rfl rfl) rfl rfl rfl ?_
                    refine WL_is (X_move rfl rfl) rfl rfl rfl ?_
                    refine WL_is (X_fieldAddr rfl rfl rfl (by simp only [Nat.zero_add] <;> rfl)) rfl rfl rfl ?_
                    refine WL_is (X_load1 rfl rfl (by exact idx0) rfl rfl) rfl rfl rfl ?_
                    refine WL_is (X_callv rfl rfl rfl Try.func42 rfl (by assumption)) rfl rfl rfl ?_
                    refine WL_is (X_not rfl rfl) rfl rfl rfl ?_
                    refine WL_is (X_pick_f rfl rfl rfl) rfl rfl rfl ?_
                    (repeat (first | refine WL_nil ?_ | refine Then_normal ?_ | refine W_seq ?_ | refine W_skip ?_ | refine W_false rfl ?_))
                    skip
                    refine W_region rfl ?_
                    refine WL_is (X_fieldAddr rfl rfl rfl (by simp only [Nat.zero_add] <;> rfl)) rfl rfl rfl ?_
                    refine WL_is (X_load1 rfl rfl (by exact idx0) rfl rfl) rfl rfl rfl ?_
                    refine WL_is (X_move rfl rfl) rfl rfl rfl ?_
                    refine WL_is (X_fieldAddr rfl rfl rfl (by simp only [Nat.zero_add] <;> rfl)) rfl rfl rfl ?_
                    refine WL_is (X_load1 rfl rfl (by exact idx0) rfl rfl) rfl rfl rfl ?_
                    refine WL_is (X_eql_t rfl rfl rfl (by omega)) rfl rfl rfl ?_
                    refine WL_is (X_move rfl rfl) rfl rfl rfl ?_
                    refine WL_is (X_fieldAddr rfl rfl rfl (by simp only [Nat.zero_add] <;> rfl)) rfl rfl rfl ?_
                    refine WL_is (X_load1 rfl rfl (by exact idx0) rfl rfl) rfl rfl rfl ?_
                    refine WL_is (X_len_sl rfl rfl rfl (by assumption)) rfl rfl rfl ?_
                    refine WL_is (X_eql_f rfl rfl rfl (by omega)) rfl rfl rfl ?_
                    refine WL_is (X_pick_t rfl rfl rfl) rfl rfl rfl ?_
                    refine WL_is (X_move rfl rfl) rfl rfl rfl ?_
                    refine WL_off rfl rfl rfl ?_
                    refine WL_off rfl rfl rfl ?_
                    refine WL_off rfl rfl rfl ?_
                    refine WL_off rfl rfl rfl ?_
                    refine WL_is (X_pick_f rfl rfl rfl) rfl rfl rfl ?_
                    refine WL_is (X_pick_f rfl rfl rfl) rfl rfl rfl ?_
                    refine WL_is (X_assign rfl rfl) rfl rfl rfl ?_
                    (repeat (first | refine WL_nil ?_ | refine Then_normal ?_ | refine W_ret ?_))
                    refine Body_end rfl rfl rfl (SubR.none _) ?_
                    simp [Acl.may, Acl.lone, Acl.p7, allB, h8]
                · (repeat (first | refine W_seq ?_))
                  skip
                  refine W_region rfl ?_
                  (refine WL_box rfl rfl rfl rfl rfl rfl ?_; intro b_)
                  refine WL_is (X_assign rfl rfl) rfl rfl rfl ?_
                  (repeat (first | refine WL_nil ?_ | refine Then_normal ?_ | refine W_seq ?_))
                  skip
                  refine W_region rfl ?_
                  refine WL_is (X_fieldAddr rfl rfl rfl (by simp only [Nat.zero_add] <;> rfl)) rfl rfl rfl ?_
                  refine WL_is (X_load1 rfl rfl (by exact idx0) rfl rfl) rfl rfl rfl ?_
                  refine WL_is (X_gtr_f rfl rfl rfl (by omega)) rfl rfl rfl ?_
                  refine WL_is (X_move rfl rfl) rfl rfl rfl ?_
                  refine WL_is (X_fieldAddr rfl rfl rfl (by simp only [Nat.zero_add] <;> rfl)) rfl rfl rfl ?_
                  refine WL_is (X_load1 rfl rfl (by exact idx0) rfl rfl) rfl rfl rfl ?_
                  refine WL_is (X_gtr_f rfl rfl rfl (by omega)) rfl rfl rfl ?_
                  refine WL_is (X_pick_f rfl rfl rfl) rfl rfl rfl ?_
                  refine WL_is (X_move rfl rfl) rfl rfl rfl ?_
                  refine WL_is (X_fieldAddr rfl rfl rfl (by simp only [Nat.zero_add] <;> rfl)) rfl rfl rfl ?_
                  refine WL_is (X_load1 rfl rfl (by exact idx0) rfl rfl) rfl rfl rfl ?_
                  refine WL_is (X_gtr_f rfl rfl rfl (by omega)) rfl rfl rfl ?_
                  refine WL_is (X_pick_f rfl rfl rfl) rfl rfl rfl ?_
                  refine WL_is (X_move rfl rfl) rfl rfl rfl ?_
                  refine WL_is (X_fieldAddr rfl rfl rfl (by simp only [Nat.zero_add] <;> rfl)) rfl rfl rfl ?_
                  refine WL_is (X_load1 rfl rfl (by exact idx0) rfl rfl) rfl rfl rfl ?_
                  refine WL_is (X_gtr_f rfl rfl rfl (by omega)) rfl rfl rfl ?_
                  refine WL_is (X_pick_f rfl rfl rfl) rfl rfl rfl ?_
                  refine WL_is (X_move rfl rfl) rfl rfl rfl ?_
                  refine WL_is (X_fieldAddr rfl rfl rfl (by simp only [Nat.zero_add] <;> rfl)) rfl rfl rfl ?_
                  refine WL_is (X_load1 rfl rfl (by exact idx0) rfl rfl) rfl rfl rfl ?_
                  refine WL_is (X_callv rfl rfl rfl Try.func42 rfl (by assumption)) rfl rfl rfl ?_
                  refine WL_is (X_not rfl rfl) rfl rfl rfl ?_
                  refine WL_is (X_pick_f rfl rfl rfl) rfl rfl rfl ?_
                  refine WL_is (X_move rfl rfl) rfl rfl rfl ?_
                  refine WL_is (X_fieldAddr rfl rfl rfl (by simp only [Nat.zero_add] <;> rfl)) rfl rfl rfl ?_
                  refine WL_is (X_load1 rfl rfl (by exact idx0) rfl rfl) rfl rfl rfl ?_
                  refine WL_is (X_callv rfl rfl rfl Try.func42 rfl (by assumption)) rfl rfl rfl ?_
                  refine WL_is (X_not rfl rfl) rfl rfl rfl ?_
                  refine WL_is (X_pick_f rfl rfl rfl) rfl rfl rfl ?_
                  (repeat (first | refine WL_nil ?_ | refine Then_normal ?_ | refine W_seq ?_ | refine W_skip ?_ | refine W_false rfl ?_))
                  skip
                  refine W_region rfl ?_
                  refine WL_is (X_fieldAddr rfl rfl rfl (by simp only [Nat.zero_add] <;> rfl)) rfl rfl rfl ?_
                  refine WL_is (X_load1 rfl rfl (by exact idx0) rfl rfl) rfl rfl rfl ?_
                  refine WL_is (X_move rfl rfl) rfl rfl rfl ?_
                  refine WL_is (X_fieldAddr rfl rfl rfl (by simp only [Nat.zero_add] <;> rfl)) rfl rfl rfl ?_
                  refine WL_is (X_load1 rfl rfl (by exact idx0) rfl rfl) rfl rfl rfl ?_
                  refine WL_is (X_eql_f rfl rfl rfl (by omega)) rfl rfl rfl ?_
                  refine WL_is (X_move rfl rfl) rfl rfl rfl ?_
                  refine WL_off rfl rfl rfl ?_
                  refine WL_off rfl rfl rfl ?_
                  refine WL_off rfl rfl rfl ?_
                  refine WL_off rfl rfl rfl ?_
                  refine WL_is (X_pick_f rfl rfl rfl) rfl rfl rfl ?_
                  refine WL_is (X_move rfl rfl) rfl rfl rfl ?_
                  refine WL_off rfl rfl rfl ?_
                  refine WL_off rfl rfl rfl ?_
                  refine WL_off rfl rfl rfl ?_
                  refine WL_off rfl rfl rfl ?_
                  refine WL_is (X_pick_f rfl rfl rfl) rfl rfl rfl ?_
                  refine WL_is (X_pick_f rfl rfl rfl) rfl rfl rfl ?_
                  refine WL_is (X_assign rfl rfl) rfl rfl rfl ?_
                  (repeat (first | refine WL_nil ?_ | refine Then_normal ?_ | refine W_ret ?_))
                  refine Body_end rfl rfl rfl (SubR.none _) ?_
                  simp [Acl.may, Acl.lone, Acl.p7, allB, h7]
            | false =>
              rw [h6] at c2
              (repeat (first | refine W_seq ?_))
              skip
              refine W_region rfl ?_
              (refine WL_box rfl rfl rfl rfl rfl rfl ?_; intro b_)
              refine WL_is (X_assign rfl rfl) rfl rfl rfl ?_
              (repeat (first | refine WL_nil ?_ | refine Then_normal ?_ | refine W_seq ?_))
              skip
              refine W_region rfl ?_
              refine WL_is (X_fieldAddr rfl rfl rfl (by simp only [Nat.zero_add] <;> rfl)) rfl rfl rfl ?_
              refine WL_is (X_load1 rfl rfl (by exact idx0) rfl rfl) rfl rfl rfl ?_
              refine WL_is (X_gtr_f rfl rfl rfl (by omega)) rfl rfl rfl ?_
              refine WL_is (X_move rfl rfl) rfl rfl rfl ?_
              refine WL_is (X_fieldAddr rfl rfl rfl (by simp only [Nat.zero_add] <;> rfl)) rfl rfl rfl ?_
              refine WL_is (X_load1 rfl rfl (by exact idx0) rfl rfl) rfl rfl rfl ?_
              refine WL_is (X_gtr_f rfl rfl rfl (by omega)) rfl rfl rfl ?_
              refine WL_is (X_pick_f rfl rfl rfl) rfl rfl rfl ?_
              refine WL_is (X_move rfl rfl) rfl rfl rfl ?_
              refine WL_is (X_fieldAddr rfl rfl rfl (by simp only [Nat.zero_add] <;> rfl)) rfl rfl rfl ?_
              refine WL_is (X_load1 rfl rfl (by exact idx0) rfl rfl) rfl rfl rfl ?_
              refine WL_is (X_gtr_f rfl rfl rfl (by omega)) rfl rfl rfl ?_
              refine WL_is (X_pick_f rfl rfl rfl) rfl rfl rfl ?_
              refine WL_is (X_move rfl rfl) rfl rfl rfl ?_
              refine WL_is (X_fieldAddr rfl rfl rfl (by simp only [Nat.zero_add] <;> rfl)) rfl rfl rfl ?_
              refine WL_is (X_load1 rfl rfl (by exact idx0) rfl rfl) rfl rfl rfl ?_
              refine WL_is (X_gtr_f rfl rfl rfl (by omega)) rfl rfl rfl ?_
              refine WL_is (X_pick_f rfl rfl rfl) rfl rfl rfl ?_
              refine WL_is (X_move rfl rfl) rfl rfl rfl ?_
              refine WL_is (X_fieldAddr rfl rfl rfl (by simp only [Nat.zero_add] <;> rfl)) rfl rfl rfl ?_
              refine WL_is (X_load1 rfl rfl (by exact idx0) rfl rfl) rfl rfl rfl ?_
              refine WL_is (X_callv rfl rfl rfl Try.func42 rfl (by assumption)) rfl rfl rfl ?_
              refine WL_is (X_not rfl rfl) rfl rfl rfl ?_
              refine WL_is (X_pick_f rfl rfl rfl) rfl rfl rfl ?_
              refine WL_is (X_move rfl rfl) rfl rfl rfl ?_
              refine WL_is (X_fieldAddr rfl rfl rfl (by simp only [Nat.zero_add] <;> rfl)) rfl rfl rfl ?_
              refine WL_is (X_load1 rfl rfl (by exact idx0) rfl rfl) rfl rfl rfl ?_
              refine WL_is (X_callv rfl rfl rfl Try.func42 rfl (by assumption)) rfl rfl rfl ?_
              refine WL_is (X_not rfl rfl) rfl rfl rfl ?_
              refine WL_is (X_pick_f rfl rfl rfl) rfl rfl rfl ?_
              (repeat (first | refine WL_nil ?_ | refine Then_normal ?_ | refine W_seq ?_ | refine W_true rfl ?_))
              skip
              refine W_region rfl ?_
              refine WL_is (X_assign rfl rfl) rfl rfl rfl ?_
              (repeat (first | refine WL_nil ?_ | refine Then_normal ?_ | refine W_ret ?_ | refine Then_ret ?_))
              refine Body_end rfl rfl rfl (SubR.none _) ?_
              simp [Acl.may, h6]
          | false =>
            rw [h5] at c1
            (repeat (first | refine W_seq ?_))
            skip
            refine W_region rfl ?_
            (refine WL_box rfl rfl rfl rfl rfl rfl ?_; intro b_)
            refine WL_is (X_assign rfl rfl) rfl rfl rfl ?_
            (repeat (first | refine WL_nil ?_ | refine Then_normal ?_ | refine W_seq ?_))
            skip
            refine W_region rfl ?_
            refine WL_is (X_fieldAddr rfl rfl rfl (by simp only [Nat.zero_add] <;> rfl)) rfl rfl rfl ?_
            refine WL_is (X_load1 rfl rfl (by exact idx0) rfl rfl) rfl rfl rfl ?_
            refine WL_is (X_gtr_f rfl rfl rfl (by omega)) rfl rfl rfl ?_
            refine WL_is (X_move rfl rfl) rfl rfl rfl ?_
            refine WL_is (X_fieldAddr rfl rfl rfl (by simp only [Nat.zero_add] <;> rfl)) rfl rfl rfl ?_
            refine WL_is (X_load1 rfl rfl (by exact idx0) rfl rfl) rfl rfl rfl ?_
            refine WL_is (X_gtr_f rfl rfl rfl (by omega)) rfl rfl rfl ?_
            refine WL_is (X_pick_f rfl rfl rfl) rfl rfl rfl ?_
            refine WL_is (X_move rfl rfl) rfl rfl rfl ?_
            refine WL_is (X_fieldAddr rfl rfl rfl (by simp only [Nat.zero_add] <;> rfl)) rfl rfl rfl ?_
            refine WL_is (X_load1 rfl rfl (by exact idx0) rfl rfl) rfl rfl rfl ?_
            refine WL_is (X_gtr_f rfl rfl rfl (by omega)) rfl rfl rfl ?_
            refine WL_is (X_pick_f rfl rfl rfl) rfl rfl rfl ?_
            refine WL_is (X_move rfl rfl) rfl rfl rfl ?_
            refine WL_is (X_fieldAddr rfl rfl rfl (by simp only [Nat.zero_add] <;> rfl)) rfl rfl rfl ?_
            refine WL_is (X_load1 rfl rfl (by exact idx0) rfl rfl) rfl rfl rfl ?_
            refine WL_is (X_gtr_f rfl rfl rfl (by omega)) rfl rfl rfl ?_
            refine WL_is (X_pick_f rfl rfl rfl) rfl rfl rfl ?_
            refine WL_is (X_move rfl rfl) rfl rfl rfl ?_
            refine WL_is (X_fieldAddr rfl rfl rfl (by simp only [Nat.zero_add] <;> rfl)) rfl rfl rfl ?_
            refine WL_is (X_load1 rfl rfl (by exact idx0) rfl rfl) rfl rfl rfl ?_
            refine WL_is (X_callv rfl rfl rfl Try.func42 rfl (by assumption)) rfl rfl rfl ?_
            refine WL_is (X_not rfl rfl) rfl rfl rfl ?_
            refine WL_is (X_pick_f rfl rfl rfl) rfl rfl rfl ?_
            refine WL_is (X_move rfl rfl) rfl rfl rfl ?_
            refine WL_off rfl rfl rfl ?_
            refine WL_off rfl rfl rfl ?_
            refine WL_off rfl rfl rfl ?_
            refine WL_off rfl rfl rfl ?_
            refine WL_is (X_pick_t rfl rfl rfl) rfl rfl rfl ?_
            (repeat (first | refine WL_nil ?_ | refine Then_normal ?_ | refine W_seq ?_ | refine W_true rfl ?_))
            skip
            refine W_region rfl ?_
            refine WL_is (X_assign rfl rfl) rfl rfl rfl ?_
            (repeat (first | refine WL_nil ?_ | refine Then_normal ?_ | refine W_ret ?_ | refine Then_ret ?_))
            refine Body_end rfl rfl rfl (SubR.none _) ?_
            simp [Acl.may, h5]
        · (repeat (first | refine W_seq ?_))
          skip
          refine W_region rfl ?_
          (refine WL_box rfl rfl rfl rfl rfl rfl ?_; intro b_)
          refine WL_is (X_assign rfl rfl) rfl rfl rfl ?_
          (repeat (first | refine WL_nil ?_ | refine Then_normal ?_ | refine W_seq ?_))
          skip
          refine W_region rfl ?_
          refine WL_is (X_fieldAddr rfl rfl rfl (by simp only [Nat.zero_add] <;> rfl)) rfl rfl rfl ?_
          refine WL_is (X_load1 rfl rfl (by exact idx0) rfl rfl) rfl rfl rfl ?_
          refine WL_is (X_gtr_f rfl rfl rfl (by omega)) rfl rfl rfl ?_
          refine WL_is (X_move rfl rfl) rfl rfl rfl ?_
          refine WL_is (X_fieldAddr rfl rfl rfl (by simp only [Nat.zero_add] <;> rfl)) rfl rfl rfl ?_
          refine WL_is (X_load1 rfl rfl (by exact idx0) rfl rfl) rfl rfl rfl ?_
          refine WL_is (X_gtr_f rfl rfl rfl (by omega)) rfl rfl rfl ?_
          refine WL_is (X_pick_f rfl rfl rfl) rfl rfl rfl ?_
          refine WL_is (X_move rfl rfl) rfl rfl rfl ?_
          refine WL_is (X_fieldAddr rfl rfl rfl (by simp only [Nat.zero_add] <;> rfl)) rfl rfl rfl ?_
          refine WL_is (X_load1 rfl rfl (by exact idx0) rfl rfl) rfl rfl rfl ?_
          refine WL_is (X_gtr_f rfl rfl rfl (by omega)) rfl rfl rfl ?_
          refine WL_is (X_pick_f rfl rfl rfl) rfl rfl rfl ?_
          refine WL_is (X_move rfl rfl) rfl rfl rfl ?_
          refine WL_is (X_fieldAddr rfl rfl rfl (by simp only [Nat.zero_add] <;> rfl)) rfl rfl rfl ?_
          refine WL_is (X_load1 rfl rfl (by exact idx0) rfl rfl) rfl rfl rfl ?_
          refine WL_is (X_gtr_t rfl rfl rfl (by omega)) rfl rfl rfl ?_
          refine WL_is (X_pick_f rfl rfl rfl) rfl rfl rfl ?_
          refine WL_is (X_move rfl rfl) rfl rfl rfl ?_
          refine WL_off rfl rfl rfl ?_
          refine WL_off rfl rfl rfl ?_
          refine WL_off rfl rfl rfl ?_
          refine WL_off rfl rfl rfl ?_
          refine WL_is (X_pick_t rfl rfl rfl) rfl rfl rfl ?_
          refine WL_is (X_move rfl rfl) rfl rfl rfl ?_
          refine WL_off rfl rfl rfl ?_
          refine WL_off rfl rfl rfl ?_
          refine WL_off rfl rfl rfl ?_
          refine WL_off rfl rfl rfl ?_
          refine WL_is (X_pick_t rfl rfl rfl) rfl rfl rfl ?_
          (repeat (first | refine WL_nil ?_ | refine Then_normal ?_ | refine W_seq ?_ | refine W_true rfl ?_))
          skip
          refine W_region rfl ?_
          refine WL_is (X_assign rfl rfl) rfl rfl rfl ?_
          (repeat (first | refine WL_nil ?_ | refine Then_normal ?_ | refine W_ret ?_ | refine Then_ret ?_))
          refine Body_end rfl rfl rfl (SubR.none _) ?_
          simp [Acl.may, Acl.p7, allB, h4]
      · (repeat (first | refine W_seq ?_))
        skip
        refine W_region rfl ?_
        (refine WL_box rfl rfl rfl rfl rfl rfl ?_; intro b_)
        refine WL_is (X_assign rfl rfl) rfl rfl rfl ?_
        (repeat (first | refine WL_nil ?_ | refine Then_normal ?_ | refine W_seq ?_))
        skip
        refine W_region rfl ?_
        refine WL_is (X_fieldAddr rfl rfl rfl (by simp only [Nat.zero_add] <;> rfl)) rfl rfl rfl ?_
        refine WL_is (X_load1 rfl rfl (by exact idx0) rfl rfl) rfl rfl rfl ?_
        refine WL_is (X_gtr_f rfl rfl rfl (by omega)) rfl rfl rfl ?_
        refine WL_is (X_move rfl rfl) rfl rfl rfl ?_
        refine WL_is (X_fieldAddr rfl rfl rfl (by simp only [Nat.zero_add] <;> rfl)) rfl rfl rfl ?_
        refine WL_is (X_load1 rfl rfl (by exact idx0) rfl rfl) rfl rfl rfl ?_
        refine WL_is (X_gtr_f rfl rfl rfl (by omega)) rfl rfl rfl ?_
        refine WL_is (X_pick_f rfl rfl rfl) rfl rfl rfl ?_
        refine WL_is (X_move rfl rfl) rfl rfl rfl ?_
        refine WL_is (X_fieldAddr rfl rfl rfl (by simp only [Nat.zero_add] <;> rfl)) rfl rfl rfl ?_
        refine WL_is (X_load1 rfl rfl (by exact idx0) rfl rfl) rfl rfl rfl ?_
        refine WL_is (X_gtr_t rfl rfl rfl (by omega)) rfl rfl rfl ?_
        refine WL_is (X_pick_f rfl rfl rfl) rfl rfl rfl ?_
        refine WL_is (X_move rfl rfl) rfl rfl rfl ?_
        refine WL_off rfl rfl rfl ?_
        refine WL_off rfl rfl rfl ?_
        refine WL_off rfl rfl rfl ?_
        refine WL_is (X_pick_t rfl rfl rfl) rfl rfl rfl ?_
        refine WL_is (X_move rfl rfl) rfl rfl rfl ?_
        refine WL_off rfl rfl rfl ?_
        refine WL_off rfl rfl rfl ?_
        refine WL_off rfl rfl rfl ?_
        refine WL_off rfl rfl rfl ?_
        refine WL_is (X_pick_t rfl rfl rfl) rfl rfl rfl ?_
        refine WL_is (X_move rfl rfl) rfl rfl rfl ?_
        refine WL_off rfl rfl rfl ?_
        refine WL_off rfl rfl rfl ?_
        refine WL_off rfl rfl rfl ?_
        refine WL_off rfl rfl rfl ?_
        refine WL_is (X_pick_t rfl rfl rfl) rfl rfl rfl ?_
        (repeat (first | refine WL_nil ?_ | refine Then_normal ?_ | refine W_seq ?_ | refine W_true rfl ?_))
        skip
        refine W_region rfl ?_
        refine WL_is (X_assign rfl rfl) rfl rfl rfl ?_
        (repeat (first | refine WL_nil ?_ | refine Then_normal ?_ | refine W_ret ?_ | refine Then_ret ?_))
        refine Body_end rfl rfl rfl (SubR.none _) ?_
        simp [Acl.may, Acl.p7, allB, h3]
    · (repeat (first | refine W_seq ?_))
      skip
      refine W_region rfl ?_
      (refine WL_box rfl rfl rfl rfl rfl rfl ?_; intro b_)
      refine WL_is (X_assign rfl rfl) rfl rfl rfl ?_
      (repeat (first | refine WL_nil ?_ | refine Then_normal ?_ | refine W_seq ?_))
      skip
      refine W_region rfl ?_
      refine WL_is (X_fieldAddr rfl rfl rfl (by simp only [Nat.zero_add] <;> rfl)) rfl rfl rfl ?_
      refine WL_is (X_load1 rfl rfl (by exact idx0) rfl rfl) rfl rfl rfl ?_
      refine WL_is (X_gtr_f rfl rfl rfl (by omega)) rfl rfl rfl ?_
      refine WL_is (X_move rfl rfl) rfl rfl rfl ?_
      refine WL_is (X_fieldAddr rfl rfl rfl (by simp only [Nat.zero_add] <;> rfl)) rfl rfl rfl ?_
      refine WL_is (X_load1 rfl rfl (by exact idx0) rfl rfl) rfl rfl rfl ?_
      refine WL_is (X_gtr_t rfl rfl rfl (by omega)) rfl rfl rfl ?_
      refine WL_is (X_pick_f rfl rfl rfl) rfl rfl rfl ?_
      refine WL_is (X_move rfl rfl) rfl rfl rfl ?_
      refine WL_off rfl rfl rfl ?_
      refine WL_off rfl rfl rfl ?_
      refine WL_off rfl rfl rfl ?_
      refine WL_is (X_pick_t rfl rfl rfl) rfl rfl rfl ?_
      refine WL_is (X_move rfl rfl) rfl rfl rfl ?_
      refine WL_off rfl rfl rfl ?_
      refine WL_off rfl rfl rfl ?_
      refine WL_off rfl rfl rfl ?_
      refine WL_is (X_pick_t rfl rfl rfl) rfl rfl rfl ?_
      refine WL_is (X_move rfl rfl) rfl rfl rfl ?_
      refine WL_off rfl rfl rfl ?_
      refine WL_off rfl rfl rfl ?_
      refine WL_off rfl rfl rfl ?_
      refine WL_off rfl rfl rfl ?_
      refine WL_is (X_pick_t rfl rfl rfl) rfl rfl rfl ?_
      refine WL_is (X_move rfl rfl) rfl rfl rfl ?_
      refine WL_off rfl rfl rfl ?_
      refine WL_off rfl rfl rfl ?_
      refine WL_off rfl rfl rfl ?_
      refine WL_off rfl rfl rfl ?_
      refine WL_is (X_pick_t rfl rfl rfl) rfl rfl rfl ?_
      (repeat (first | refine WL_nil ?_ | refine Then_normal ?_ | refine W_seq ?_ | refine W_true rfl ?_))
      skip
      refine W_region rfl ?_
      refine WL_is (X_assign rfl rfl) rfl rfl rfl ?_
      (repeat (first | refine WL_nil ?_ | refine Then_normal ?_ | refine W_ret ?_ | refine Then_ret ?_))
      refine Body_end rfl rfl rfl (SubR.none _) ?_
      simp [Acl.may, Acl.p7, allB, h2]
  · (repeat (first | refine W_seq ?_))
    skip
    refine W_region rfl ?_
    (refine WL_box rfl rfl rfl rfl rfl rfl ?_; intro b_)
    refine WL_is (X_assign rfl rfl) rfl rfl rfl ?_
    (repeat (first | refine WL_nil ?_ | refine Then_normal ?_ | refine W_seq ?_))
    skip
    refine W_region rfl ?_
    refine WL_is (X_fieldAddr rfl rfl rfl (by simp only [Nat.zero_add] <;> rfl)) rfl rfl rfl ?_
    refine WL_is (X_load1 rfl rfl (by exact idx0) rfl rfl) rfl rfl rfl ?_
    refine WL_is (X_gtr_t rfl rfl rfl (by omega)) rfl rfl rfl ?_
    refine WL_is (X_move rfl rfl) rfl rfl rfl ?_
    refine WL_off rfl rfl rfl ?_
    refine WL_off rfl rfl rfl ?_
    refine WL_off rfl rfl rfl ?_
    refine WL_is (X_pick_t rfl rfl rfl) rfl rfl rfl ?_
    refine WL_is (X_move rfl rfl) rfl rfl rfl ?_
    refine WL_off rfl rfl rfl ?_
    refine WL_off rfl rfl rfl ?_
    refine WL_off rfl rfl rfl ?_
    refine WL_is (X_pick_t rfl rfl rfl) rfl rfl rfl ?_
    refine WL_is (X_move rfl rfl) rfl rfl rfl ?_
    refine WL_off rfl rfl rfl ?_
    refine WL_off rfl rfl rfl ?_
    refine WL_off rfl rfl rfl ?_
    refine WL_is (X_pick_t rfl rfl rfl) rfl rfl rfl ?_
    refine WL_is (X_move rfl rfl) rfl rfl rfl ?_
    refine WL_off rfl rfl rfl ?_
    refine WL_off rfl rfl rfl ?_
    refine WL_off rfl rfl rfl ?_
    refine WL_off rfl rfl rfl ?_
    refine WL_is (X_pick_t rfl rfl rfl) rfl rfl rfl ?_
    refine WL_is (X_move rfl rfl) rfl rfl rfl ?_
    refine WL_off rfl rfl rfl ?_
    refine WL_off rfl rfl rfl ?_
    refine WL_off rfl rfl rfl ?_
    refine WL_off rfl rfl rfl ?_
    refine WL_is (X_pick_t rfl rfl rfl) rfl rfl rfl ?_
    (repeat (first | refine WL_nil ?_ | refine Then_normal ?_ | refine W_seq ?_ | refine W_true rfl ?_))
    skip
    refine W_region rfl ?_
    refine WL_is (X_assign rfl rfl) rfl rfl rfl ?_
    (repeat (first | refine WL_nil ?_ | refine Then_normal ?_ | refine W_ret ?_ | refine Then_ret ?_))
    refine Body_end rfl rfl rfl (SubR.none _) ?_
    simp [Acl.may, Acl.p7, allB, h1]
set_option maxHeartbeats 1000000 in
theorem same_aclW_ref (h : PH) (a b : Acl) (v w : Value) (hv : AclV h v a) (hw : AclV h w b) (hs : a.wide) (ht : b.wide) : Does Try.prog 16 [v, w] [] h (Ret fun r _ _ => r = .bool (decide (a = b))) := by
  obtain ⟨u, g, rfl, hu, hg⟩ := hv
  obtain ⟨u2, g2, rfl, hu2, hg2⟩ := hw
  obtain ⟨o, gg, t, us, gs, hm, m⟩ := a
  obtain ⟨o2, gg2, t2, us2, gs2, hm2, m2⟩ := b
  obtain ⟨hs1, hs2⟩ := hs
  obtain ⟨ht1, ht2⟩ := ht
  simp only [aclV] at *
  have c1 := sameW_ref h us us2 u u2 hu hu2 (by omega) (by omega)
  have c2 := sameW_ref h gs gs2 g g2 hg hg2 (by omega) (by omega)
  refine Does_of_W Try.func16 rfl (n := 52) rfl rfl (by simp only [argE, Nat.reduceAdd] <;> rfl) ?_
  by_cases h3 : o = o2
  · by_cases h4 : gg = gg2
    · by_cases h5 : t = t2
      · by_cases h6 : hm = hm2
        · by_cases h7 : m = m2
          · by_cases h1 : us = us2
            · rw [decide_eq_true h1] at c1
              (repeat (first | refine W_seq ?_))
              skip
              refine W_region rfl ?_
              (refine WL_box rfl rfl rfl rfl rfl rfl ?_; intro b_)
              (refine WL_box rfl rfl rfl rfl rfl rfl ?_; intro b_)
              refine WL_is (X_assign rfl rfl) rfl rfl rfl ?_
              (repeat (first | refine WL_nil ?_ | refine Then_normal ?_ | refine W_seq ?_))
              skip
              refine W_region rfl ?_
              refine WL_is (X_fieldAddr rfl rfl rfl (by simp only [Nat.zero_add] <;> rfl)) rfl rfl rfl ?_
              refine WL_is (X_load1 rfl rfl (by exact idx1) rfl rfl) rfl rfl rfl ?_
              refine WL_is (X_fieldAddr rfl rfl rfl (by simp only [Nat.zero_add] <;> rfl)) rfl rfl rfl ?_
              refine WL_is (X_load1 rfl rfl (by exact idx0) rfl rfl) rfl rfl rfl ?_
              refine WL_is (X_eql_t rfl rfl rfl (by omega)) rfl rfl rfl ?_
              refine WL_is (X_move rfl rfl) rfl rfl rfl ?_
              refine WL_is (X_fieldAddr rfl rfl rfl (by simp only [Nat.zero_add] <;> rfl)) rfl rfl rfl ?_
              refine WL_is (X_load1 rfl rfl (by exact idx1) rfl rfl) rfl rfl rfl ?_
              refine WL_is (X_fieldAddr rfl rfl rfl (by simp only [Nat.zero_add] <;> rfl)) rfl rfl rfl ?_
              refine WL_is (X_load1 rfl rfl (by exact idx0) rfl rfl) rfl rfl rfl ?_
              refine WL_is (X_eql_t rfl rfl rfl (by omega)) rfl rfl rfl ?_
              refine WL_is (X_pick_t rfl rfl rfl) rfl rfl rfl ?_
              refine WL_is (X_move rfl rfl) rfl rfl rfl ?_
              refine WL_is (X_fieldAddr rfl rfl rfl (by simp only [Nat.zero_add] <;> rfl)) rfl rfl rfl ?_
              refine WL_is (X_load1 rfl rfl (by exact idx1) rfl rfl) rfl rfl rfl ?_
              refine WL_is (X_fieldAddr rfl rfl rfl (by simp only [Nat.zero_add] <;> rfl)) rfl rfl rfl ?_
              refine WL_is (X_load1 rfl rfl (by exact idx0) rfl rfl) rfl rfl rfl ?_
              refine WL_is (X_eql_t rfl rfl rfl (by omega)) rfl rfl rfl ?_
              refine WL_is (X_pick_t rfl rfl rfl) rfl rfl rfl ?_
              refine WL_is (X_move rfl rfl) rfl rfl rfl ?_
              refine WL_is (X_fieldAddr rfl rfl rfl (by simp only [Nat.zero_add] <;> rfl)) rfl rfl rfl ?_
              refine WL_is (X_load1 rfl rfl (by exact idx1) rfl rfl) rfl rfl rfl ?_
              refine WL_is (X_fieldAddr rfl rfl rfl (by simp only [Nat.zero_add] <;> rfl)) rfl rfl rfl ?_
              refine WL_is (X_load1 rfl rfl (by exact idx0) rfl rfl) rfl rfl rfl ?_
              refine WL_is (X_eqB_t rfl rfl rfl rfl (by assumption)) rfl rfl rfl ?_
              refine WL_is (X_pick_t rfl rfl rfl) rfl rfl rfl ?_
              refine WL_is (X_move rfl rfl) rfl rfl rfl ?_
              refine WL_is (X_fieldAddr rfl rfl rfl (by simp only [Nat.zero_add] <;> rfl)) rfl rfl rfl ?_
              refine WL_is (X_load1 rfl rfl (by exact idx1) rfl rfl) rfl rfl rfl ?_
              refine WL_is (X_fieldAddr rfl rfl rfl (by simp only [Nat.zero_add] <;> rfl)) rfl rfl rfl ?_
              refine WL_is (X_load1 rfl rfl (by exact idx0) rfl rfl) rfl rfl rfl ?_
              refine WL_is (X_eql_t rfl rfl rfl (by omega)) rfl rfl rfl ?_
              refine WL_is (X_pick_t rfl rfl rfl) rfl rfl rfl ?_
              refine WL_is (X_move rfl rfl) rfl rfl rfl ?_
              refine WL_is (X_fieldAddr rfl rfl rfl (by simp only [Nat.zero_add] <;> rfl)) rfl rfl rfl ?_
              refine WL_is (X_load1 rfl rfl (by exact idx1) rfl rfl) rfl rfl rfl ?_
              refine WL_is (X_fieldAddr rfl rfl rfl (by simp only [Nat.zero_add] <;> rfl)) rfl rfl rfl ?_
              refine WL_is (X_load1 rfl rfl (by exact idx0) rfl rfl) rfl rfl rfl ?_
              refine WL_is (X_callv rfl rfl rfl Try.func34 rfl (by assumption)) rfl rfl rfl ?_
              refine WL_is (X_pick_t rfl rfl rfl) rfl rfl rfl ?_
              refine WL_is (X_move rfl rfl) rfl rfl rfl ?_
              refine WL_is (X_fieldAddr rfl rfl rfl (by simp only [Nat.zero_add] <;> rfl)) rfl rfl rfl ?_
              refine WL_is (X_load1 rfl rfl (by exact idx1) rfl rfl) rfl rfl rfl ?_
              refine WL_is (X_fieldAddr rfl rfl rfl (by simp only [Nat.zero_add] <;> rfl)) rfl rfl rfl ?_
              refine WL_is (X_load1 rfl rfl (by exact idx0) rfl rfl) rfl rfl rfl ?_
              refine WL_is (X_callv rfl rfl rfl Try.func34 rfl (by assumption)) rfl rfl rfl ?_
              refine WL_is (X_pick_t rfl rfl rfl) rfl rfl rfl ?_
              refine WL_is (X_assign rfl rfl) rfl rfl rfl ?_
              (repeat (first | refine WL_nil ?_ | refine Then_normal ?_ | refine W_ret ?_))
              refine Body_end rfl rfl rfl (SubR.none _) ?_
              subst h1 h7 h3 h4 h5 h6
              by_cases h2 : gs = gs2
              · subst h2; simp
              · simp [h2]
            · rw [decide_eq_false h1] at c1
              (repeat (first | refine W_seq ?_))
              skip
              refine W_region rfl ?_
              (refine WL_box rfl rfl rfl rfl rfl rfl ?_; intro b_)
              (refine WL_box rfl rfl rfl rfl rfl rfl ?_; intro b_)
              refine WL_is (X_assign rfl rfl) rfl rfl rfl ?_
              (repeat (first | refine WL_nil ?_ | refine Then_normal ?_ | refine W_seq ?_))
              skip
              refine W_region rfl ?_
              refine WL_is (X_fieldAddr rfl rfl rfl (by simp only [Nat.zero_add] <;> rfl)) rfl rfl rfl ?_
              refine WL_is (X_load1 rfl rfl (by exact idx1) rfl rfl) rfl rfl rfl ?_
              refine WL_is (X_fieldAddr rfl rfl rfl (by simp only [Nat.zero_add] <;> rfl)) rfl rfl rfl ?_
              refine WL_is (X_load1 rfl rfl (by exact idx0) rfl rfl) rfl rfl rfl ?_
              refine WL_is (X_eql_t rfl rfl rfl (by omega)) rfl rfl rfl ?_
              refine WL_is (X_move rfl rfl) rfl rfl rfl ?_
              refine WL_is (X_fieldAddr rfl rfl rfl (by simp only [Nat.zero_add] <;> rfl)) rfl rfl rfl ?_
              refine WL_is (X_load1 rfl rfl (by exact idx1) rfl rfl) rfl rfl rfl ?_
              refine WL_is (X_fieldAddr rfl rfl rfl (by simp only [Nat.zero_add] <;> rfl)) rfl rfl rfl ?_
              refine WL_is (X_load1 rfl rfl (by exact idx0) rfl rfl) rfl rfl rfl ?_
              refine WL_is (X_eql_t rfl rfl rfl (by omega)) rfl rfl rfl ?_
              refine WL_is (X_pick_t rfl rfl rfl) rfl rfl rfl ?_
              refine WL_is (X_move rfl rfl) rfl rfl rfl ?_
              refine WL_is (X_fieldAddr rfl rfl rfl (by simp only [Nat.zero_add] <;> rfl)) rfl rfl rfl ?_
              refine WL_is (X_load1 rfl rfl (by exact idx1) rfl rfl) rfl rfl rfl ?_
              refine WL_is (X_fieldAddr rfl rfl rfl (by simp only [Nat.zero_add] <;> rfl)) rfl rfl rfl ?_
              refine WL_is (X_load1 rfl rfl (by exact idx0) rfl rfl) rfl rfl rfl ?_
              refine WL_is (X_eql_t rfl rfl rfl (by omega)) rfl rfl rfl ?_
              refine WL_is (X_pick_t rfl rfl rfl) rfl rfl rfl ?_
              refine WL_is (X_move rfl rfl) rfl rfl rfl ?_
              refine WL_is (X_fieldAddr rfl rfl rfl (by simp only [Nat.zero_add] <;> rfl)) rfl rfl rfl ?_
              refine WL_is (X_load1 rfl rfl (by exact idx1) rfl rfl) rfl rfl rfl ?_
              refine WL_is (X_fieldAddr rfl rfl rfl (by simp only [Nat.zero_add] <;> rfl)) rfl rfl rfl ?_
              refine WL_is (X_load1 rfl rfl (by exact idx0) rfl rfl) rfl rfl rfl ?_
              refine WL_is (X_eqB_t rfl rfl rfl rfl (by assumption)) rfl rfl rfl ?_
              refine WL_is (X_pick_t rfl rfl rfl) rfl rfl rfl ?_
              refine WL_is (X_move rfl rfl) rfl rfl rfl ?_
              refine WL_is (X_fieldAddr rfl rfl rfl (by simp only [Nat.zero_add] <;> rfl)) rfl rfl rfl ?_
              refine WL_is (X_load1 rfl rfl (by exact idx1) rfl rfl) rfl rfl rfl ?_
              refine WL_is (X_fieldAddr rfl rfl rfl (by simp only [Nat.zero_add] <;> rfl)) rfl rfl rfl ?_
              refine WL_is (X_load1 rfl rfl (by exact idx0) rfl rfl) rfl rfl rfl ?_
              refine WL_is (X_eql_t rfl rfl rfl (by omega)) rfl rfl rfl ?_
              refine WL_is (X_pick_t rfl rfl rfl) rfl rfl rfl ?_
              refine WL_is (X_move rfl rfl) rfl rfl rfl ?_
              refine WL_is (X_fieldAddr rfl rfl rfl (by simp only [Nat.zero_add] <;> rfl)) rfl rfl rfl ?_
              refine WL_is (X_load1 rfl rfl (by exact idx1) rfl rfl) rfl rfl rfl ?_
              refine WL_is (X_fieldAddr rfl rfl rfl (by simp only [Nat.zero_add] <;> rfl)) rfl rfl rfl ?_
              refine WL_is (X_load1 rfl rfl (by exact idx0) rfl rfl) rfl rfl rfl ?_
              refine WL_is (X_callv rfl rfl rfl Try.func34 rfl (by assumption)) rfl rfl rfl ?_
              refine WL_is (X_pick_t rfl rfl rfl) rfl rfl rfl ?_
              refine WL_is (X_move rfl rfl) rfl rfl rfl ?_
              refine WL_off rfl rfl rfl ?_
              refine WL_off rfl rfl rfl ?_
              refine WL_off rfl rfl rfl ?_
              refine WL_off rfl rfl rfl ?_
              refine WL_off rfl rfl rfl ?_
              refine WL_is (X_pick_f rfl rfl rfl) rfl rfl rfl ?_
              refine WL_is (X_assign rfl rfl) rfl rfl rfl ?_
              (repeat (first | refine WL_nil ?_ | refine Then_normal ?_ | refine W_ret ?_))
              refine Body_end rfl rfl rfl (SubR.none _) ?_
              simp [h1]
          · (repeat (first | refine W_seq ?_))
            skip
            refine W_region rfl ?_
            (refine WL_box rfl rfl rfl rfl rfl rfl ?_; intro b_)
            (refine WL_box rfl rfl rfl rfl rfl rfl ?_; intro b_)
            refine WL_is (X_assign rfl rfl) rfl rfl rfl ?_
            (repeat (first | refine WL_nil ?_ | refine Then_normal ?_ | refine W_seq ?_))
            skip
            refine W_region rfl ?_
            refine WL_is (X_fieldAddr rfl rfl rfl (by simp only [Nat.zero_add] <;> rfl)) rfl rfl rfl ?_
            refine WL_is (X_load1 rfl rfl (by exact idx1) rfl rfl) rfl rfl rfl ?_
            refine WL_is (X_fieldAddr rfl rfl rfl (by simp only [Nat.zero_add] <;> rfl)) rfl rfl rfl ?_
            refine WL_is (X_load1 rfl rfl (by exact idx0) rfl rfl) rfl rfl rfl ?_
            refine WL_is (X_eql_t rfl rfl rfl (by omega)) rfl rfl rfl ?_
            refine WL_is (X_move rfl rfl) rfl rfl rfl ?_
            refine WL_is (X_fieldAddr rfl rfl rfl (by simp only [Nat.zero_add] <;> rfl)) rfl rfl rfl ?_
            refine WL_is (X_load1 rfl rfl (by exact idx1) rfl rfl) rfl rfl rfl ?_
            refine WL_is (X_fieldAddr rfl rfl rfl (by simp only [Nat.zero_add] <;> rfl)) rfl rfl rfl ?_
            refine WL_is (X_load1 rfl rfl (by exact idx0) rfl rfl) rfl rfl rfl ?_
            refine WL_is (X_eql_t rfl rfl rfl (by omega)) rfl rfl rfl ?_
            refine WL_is (X_pick_t rfl rfl rfl) rfl rfl rfl ?_
            refine WL_is (X_move rfl rfl) rfl rfl rfl ?_
            refine WL_is (X_fieldAddr rfl rfl rfl (by simp only [Nat.zero_add] <;> rfl)) rfl rfl rfl ?_
            refine WL_is (X_load1 rfl rfl (by exact idx1) rfl rfl) rfl rfl rfl ?_
            refine WL_is (X_fieldAddr rfl rfl rfl (by simp only [Nat.zero_add] <;> rfl)) rfl rfl rfl ?_
            refine WL_is (X_load1 rfl rfl (by exact idx0) rfl rfl) rfl rfl rfl ?_
            refine WL_is (X_eql_t rfl rfl rfl (by omega)) rfl rfl rfl ?_
            refine WL_is (X_pick_t rfl rfl rfl) rfl rfl rfl ?_
            refine WL_is (X_move rfl rfl) rfl rfl rfl ?_
            refine WL_is (X_fieldAddr rfl rfl rfl (by simp only [Nat.zero_add] <;> rfl)) rfl rfl rfl ?_
            refine WL_is (X_load1 rfl rfl (by exact idx1) rfl rfl) rfl rfl rfl ?_
            refine WL_is (X_fieldAddr rfl rfl rfl (by simp only [Nat.zero_add] <;> rfl)) rfl rfl rfl ?_
            refine WL_is (X_load1 rfl rfl (by exact idx0) rfl rfl) rfl rfl rfl ?_
            refine WL_is (X_eqB_t rfl rfl rfl rfl (by assumption)) rfl rfl rfl ?_
            refine WL_is (X_pick_t rfl rfl rfl) rfl rfl rfl ?_
            refine WL_is (X_move rfl rfl) rfl rfl rfl ?_
            refine WL_is (X_fieldAddr rfl rfl rfl (by simp only [Nat.zero_add] <;> rfl)) rfl rfl rfl ?_
            refine WL_is (X_load1 rfl rfl (by exact idx1) rfl rfl) rfl rfl rfl ?_
            refine WL_is (X_fieldAddr rfl rfl rfl (by simp only [Nat.zero_add] <;> rfl)) rfl rfl rfl ?_
            refine WL_is (X_load1 rfl rfl (by exact idx0) rfl rfl) rfl rfl rfl ?_
            refine WL_is (X_eql_f rfl rfl rfl (by omega)) rfl rfl rfl ?_
            refine WL_is (X_pick_t rfl rfl rfl) rfl rfl rfl ?_
            refine WL_is (X_move rfl rfl) rfl rfl rfl ?_
            refine WL_off rfl rfl rfl ?_
            refine WL_off rfl rfl rfl ?_
            refine WL_off rfl rfl rfl ?_
            refine WL_off rfl rfl rfl ?_
            refine WL_off rfl rfl rfl ?_
            refine WL_is (X_pick_f rfl rfl rfl) rfl rfl rfl ?_
            refine WL_is (X_move rfl rfl) rfl rfl rfl ?_
            refine WL_off rfl rfl rfl ?_
            refine WL_off rfl rfl rfl ?_
            refine WL_off rfl rfl rfl ?_
            refine WL_off rfl rfl rfl ?_
            refine WL_off rfl rfl rfl ?_
            refine WL_is (X_pick_f rfl rfl rfl) rfl rfl rfl ?_
            refine WL_is (X_assign rfl rfl) rfl rfl rfl ?_
            (repeat (first | refine WL_nil ?_ | refine Then_normal ?_ | refine W_ret ?_))
            refine Body_end rfl rfl rfl (SubR.none _) ?_
            simp [h7]
        · (repeat (first | refine W_seq ?_))
          skip
          refine W_region rfl ?_
          (refine WL_box rfl rfl rfl rfl rfl rfl ?_; intro b_)
          (refine WL_box rfl rfl rfl rfl rfl rfl ?_; intro b_)
          refine WL_is (X_assign rfl rfl) rfl rfl rfl ?_
          (repeat (first | refine WL_nil ?_ | refine Then_normal ?_ | refine W_seq ?_))
          skip
          refine W_region rfl ?_
          refine WL_is (X_fieldAddr rfl rfl rfl (by simp only [Nat.zero_add] <;> rfl)) rfl rfl rfl ?_
          refine WL_is (X_load1 rfl rfl (by exact idx1) rfl rfl) rfl rfl rfl ?_
          refine WL_is (X_fieldAddr rfl rfl rfl (by simp only [Nat.zero_add] <;> rfl)) rfl rfl rfl ?_
          refine WL_is (X_load1 rfl rfl (by exact idx0) rfl rfl) rfl rfl rfl ?_
          refine WL_is (X_eql_t rfl rfl rfl (by omega)) rfl rfl rfl ?_
          refine WL_is (X_move rfl rfl) rfl rfl rfl ?_
          refine WL_is (X_fieldAddr rfl rfl rfl (by simp only [Nat.zero_add] <;> rfl)) rfl rfl rfl ?_
          refine WL_is (X_load1 rfl rfl (by exact idx1) rfl rfl) rfl rfl rfl ?_
          refine WL_is (X_fieldAddr rfl rfl rfl (by simp only [Nat.zero_add] <;> rfl)) rfl rfl rfl ?_
          refine WL_is (X_load1 rfl rfl (by exact idx0) rfl rfl) rfl rfl rfl ?_
          refine WL_is (X_eql_t rfl rfl rfl (by omega)) rfl rfl rfl ?_
          refine WL_is (X_pick_t rfl rfl rfl) rfl rfl rfl ?_
          refine WL_is (X_move rfl rfl) rfl rfl rfl ?_
          refine WL_is (X_fieldAddr rfl rfl rfl (by simp only [Nat.zero_add] <;> rfl)) rfl rfl rfl ?_
          refine WL_is (X_load1 rfl rfl (by exact idx1) rfl rfl) rfl rfl rfl ?_
          refine WL_is (X_fieldAddr rfl rfl rfl (by simp only [Nat.zero_add] <;> rfl)) rfl rfl rfl ?_
          refine WL_is (X_load1 rfl rfl (by exact idx0) rfl rfl) rfl rfl rfl ?_
          refine WL_is (X_eql_t rfl rfl rfl (by omega)) rfl rfl rfl ?_
          refine WL_is (X_pick_t rfl rfl rfl) rfl rfl rfl ?_
          refine WL_is (X_move rfl rfl) rfl rfl rfl ?_
          refine WL_is (X_fieldAddr rfl rfl rfl (by simp only [Nat.zero_add] <;> rfl)) rfl rfl rfl ?_
          refine WL_is (X_load1 rfl rfl (by exact idx1) rfl rfl) rfl rfl rfl ?_
          refine WL_is (X_fieldAddr rfl rfl rfl (by simp only [Nat.zero_add] <;> rfl)) rfl rfl rfl ?_
          refine WL_is (X_load1 rfl rfl (by exact idx0) rfl rfl) rfl rfl rfl ?_
          refine WL_is (X_eqB_f rfl rfl rfl rfl (by assumption)) rfl rfl rfl ?_
          refine WL_is (X_pick_t rfl rfl rfl) rfl rfl rfl ?_
          refine WL_is (X_move rfl rfl) rfl rfl rfl ?_
          refine WL_off rfl rfl rfl ?_
          refine WL_off rfl rfl rfl ?_
          refine WL_off rfl rfl rfl ?_
          refine WL_off rfl rfl rfl ?_
          refine WL_off rfl rfl rfl ?_
          refine WL_is (X_pick_f rfl rfl rfl) rfl rfl rfl ?_
          refine WL_is (X_move rfl rfl) rfl rfl rfl ?_
          refine WL_off rfl rfl rfl ?_
          refine WL_off rfl rfl rfl ?_
          refine WL_off rfl rfl rfl ?_
          refine WL_off rfl rfl rfl ?_
          refine WL_off rfl rfl rfl ?_
          refine WL_is (X_pick_f rfl rfl rfl) rfl rfl rfl ?_
          refine WL_is (X_move rfl rfl) rfl rfl rfl ?_
          refine WL_off rfl rfl rfl ?_
          refine WL_off rfl rfl rfl ?_
          refine WL_off rfl rfl rfl ?_
          refine WL_off rfl rfl rfl ?_
          refine WL_off rfl rfl rfl ?_
          refine WL_is (X_pick_f rfl rfl rfl) rfl rfl rfl ?_
          refine WL_is (X_assign rfl rfl) rfl rfl rfl ?_
          (repeat (first | refine WL_nil ?_ | refine Then_normal ?_ | refine W_ret ?_))
          refine Body_end rfl rfl rfl (SubR.none _) ?_
          simp [h6]
      · (repeat (first | refine W_seq ?_))
        skip
        refine W_region rfl ?_
        (refine WL_box rfl rfl rfl rfl rfl rfl ?_; intro b_)
        (refine WL_box rfl rfl rfl rfl rfl rfl ?_; intro b_)
        refine WL_is (X_assign rfl rfl) rfl rfl rfl ?_
        (repeat (first | refine WL_nil ?_ | refine Then_normal ?_ | refine W_seq ?_))
        skip
        refine W_region rfl ?_
        refine WL_is (X_fieldAddr rfl rfl rfl (by simp only [Nat.zero_add] <;> rfl)) rfl rfl rfl ?_
        refine WL_is (X_load1 rfl rfl (by exact idx1) rfl rfl) rfl rfl rfl ?_
        refine WL_is (X_fieldAddr rfl rfl rfl (by simp only [Nat.zero_add] <;> rfl)) rfl rfl rfl ?_
        refine WL_is (X_load1 rfl rfl (by exact idx0) rfl rfl) rfl rfl rfl ?_
        refine WL_is (X_eql_t rfl rfl rfl (by omega)) rfl rfl rfl ?_
        refine WL_is (X_move rfl rfl) rfl rfl rfl ?_
        refine WL_is (X_fieldAddr rfl rfl rfl (by simp only [Nat.zero_add] <;> rfl)) rfl rfl rfl ?_
        refine WL_is (X_load1 rfl rfl (by exact idx1) rfl rfl) rfl rfl rfl ?_
        refine WL_is (X_fieldAddr rfl rfl rfl (by simp only [Nat.zero_add] <;> rfl)) rfl rfl rfl ?_
        refine WL_is (X_load1 rfl rfl (by exact idx0) rfl rfl) rfl rfl rfl ?_
        refine WL_is (X_eql_t rfl rfl rfl (by omega)) rfl rfl rfl ?_
        refine WL_is (X_pick_t rfl rfl rfl) rfl rfl rfl ?_
        refine WL_is (X_move rfl rfl) rfl rfl rfl ?_
        refine WL_is (X_fieldAddr rfl rfl rfl (by simp only [Nat.zero_add] <;> rfl)) rfl rfl rfl ?_
        refine WL_is (X_load1 rfl rfl (by exact idx1) rfl rfl) rfl rfl rfl ?_
        refine WL_is (X_fieldAddr rfl rfl rfl (by simp only [Nat.zero_add] <;> rfl)) rfl rfl rfl ?_
        refine WL_is (X_load1 rfl rfl (by exact idx0) rfl rfl) rfl rfl rfl ?_
        refine WL_is (X_eql_f rfl rfl rfl (by omega)) rfl rfl rfl ?_
        refine WL_is (X_pick_t rfl rfl rfl) rfl rfl rfl ?_
        refine WL_is (X_move rfl rfl) rfl rfl rfl ?_
        refine WL_off rfl rfl rfl ?_
        refine WL_off rfl rfl rfl ?_
        refine WL_off rfl rfl rfl ?_
        refine WL_off rfl rfl rfl ?_
        refine WL_off rfl rfl rfl ?_
        refine WL_is (X_pick_f rfl rfl rfl) rfl rfl rfl ?_
        refine WL_is (X_move rfl rfl) rfl rfl rfl ?_
        refine WL_off rfl rfl rfl ?_
        refine WL_off rfl rfl rfl ?_
        refine WL_off rfl rfl rfl ?_
        refine WL_off rfl rfl rfl ?_
        refine WL_off rfl rfl rfl ?_
        refine WL_is (X_pick_f rfl rfl rfl) rfl rfl rfl ?_
        refine WL_is (X_move rfl rfl) rfl rfl rfl ?_
        refine WL_off rfl rfl rfl ?_
        refine WL_off rfl rfl rfl ?_
        refine WL_off rfl rfl rfl ?_
        refine WL_off rfl rfl rfl ?_
        refine WL_off rfl rfl rfl ?_
        refine WL_is (X_pick_f rfl rfl rfl) rfl rfl rfl ?_
        refine WL_is (X_move rfl rfl) rfl rfl rfl ?_
        refine WL_off rfl rfl rfl ?_
        refine WL_off rfl rfl rfl ?_
        refine WL_off rfl rfl rfl ?_
        refine WL_off rfl rfl rfl ?_
        refine WL_off rfl rfl rfl ?_
        refine WL_is (X_pick_f rfl rfl rfl) rfl rfl rfl ?_
        refine WL_is (X_assign rfl rfl) rfl rfl rfl ?_
        (repeat (first | refine WL_nil ?_ | refine Then_normal ?_ | refine W_ret ?_))
        refine Body_end rfl rfl rfl (SubR.none _) ?_
        simp [h5]
    · (repeat (first | refine W_seq ?_))
      skip
      refine W_region rfl ?_
      (refine WL_box rfl rfl rfl rfl rfl rfl ?_; intro b_)
      (refine WL_box rfl rfl rfl rfl rfl rfl ?_; intro b_)
      refine WL_is (X_assign rfl rfl) rfl rfl rfl ?_
      (repeat (first | refine WL_nil ?_ | refine Then_normal ?_ | refine W_seq ?_))
      skip
      refine W_region rfl ?_
      refine WL_is (X_fieldAddr rfl rfl rfl (by simp only [Nat.zero_add] <;> rfl)) rfl rfl rfl ?_
      refine WL_is (X_load1 rfl rfl (by exact idx1) rfl rfl) rfl rfl rfl ?_
      refine WL_is (X_fieldAddr rfl rfl rfl (by simp only [Nat.zero_add] <;> rfl)) rfl rfl rfl ?_
      refine WL_is (X_load1 rfl rfl (by exact idx0) rfl rfl) rfl rfl rfl ?_
      refine WL_is (X_eql_t rfl rfl rfl (by omega)) rfl rfl rfl ?_
      refine WL_is (X_move rfl rfl) rfl rfl rfl ?_
      refine WL_is (X_fieldAddr rfl rfl rfl (by simp only [Nat.zero_add] <;> rfl)) rfl rfl rfl ?_
      refine WL_is (X_load1 rfl rfl (by exact idx1) rfl rfl) rfl rfl rfl ?_
      refine WL_is (X_fieldAddr rfl rfl rfl (by simp only [Nat.zero_add] <;> rfl)) rfl rfl rfl ?_
      refine WL_is (X_load1 rfl rfl (by exact idx0) rfl rfl) rfl rfl rfl ?_
      refine WL_is (X_eql_f rfl rfl rfl (by omega)) rfl rfl rfl ?_
      refine WL_is (X_pick_t rfl rfl rfl) rfl rfl rfl ?_
      refine WL_is (X_move rfl rfl) rfl rfl rfl ?_
      refine WL_off rfl rfl rfl ?_
      refine WL_off rfl rfl rfl ?_
      refine WL_off rfl rfl rfl ?_
      refine WL_off rfl rfl rfl ?_
      refine WL_off rfl rfl rfl ?_
      refine WL_is (X_pick_f rfl rfl rfl) rfl rfl rfl ?_
      refine WL_is (X_move rfl rfl) rfl rfl rfl ?_
      refine WL_off rfl rfl rfl ?_
      refine WL_off rfl rfl rfl ?_
      refine WL_off rfl rfl rfl ?_
      refine WL_off rfl rfl rfl ?_
      refine WL_off rfl rfl rfl ?_
      refine WL_is (X_pick_f rfl rfl rfl) rfl rfl rfl ?_
      refine WL_is (X_move rfl rfl) rfl rfl rfl ?_
      refine WL_off rfl rfl rfl ?_
      refine WL_off rfl rfl rfl ?_
      refine WL_off rfl rfl rfl ?_
      refine WL_off rfl rfl rfl ?_
      refine WL_off rfl rfl rfl ?_
      refine WL_is (X_pick_f rfl rfl rfl) rfl rfl rfl ?_
      refine WL_is (X_move rfl rfl) rfl rfl rfl ?_
      refine WL_off rfl rfl rfl ?_
      refine WL_off rfl rfl rfl ?_
      refine WL_off rfl rfl rfl ?_
      refine WL_off rfl rfl rfl ?_
      refine WL_off rfl rfl rfl ?_
      refine WL_is (X_pick_f rfl rfl rfl) rfl rfl rfl ?_
      refine WL_is (X_move rfl rfl) rfl rfl rfl ?_
      refine WL_off rfl rfl rfl ?_
      refine WL_off rfl rfl rfl ?_
      refine WL_off rfl rfl rfl ?_
      refine WL_off rfl rfl rfl ?_
      refine WL_off rfl rfl rfl ?_
      refine WL_is (X_pick_f rfl rfl rfl) rfl rfl rfl ?_
      refine WL_is (X_assign rfl rfl) rfl rfl rfl ?_
      (repeat (first | refine WL_nil ?_ | refine Then_normal ?_ | refine W_ret ?_))
      refine Body_end rfl rfl rfl (SubR.none _) ?_
      simp [h4]
  · (repeat (first | refine W_seq ?_))
    skip
    refine W_region rfl ?_
    (refine WL_box rfl rfl rfl rfl rfl rfl ?_; intro b_)
    (refine WL_box rfl rfl rfl rfl rfl rfl ?_; intro b_)
    refine WL_is (X_assign rfl rfl) rfl rfl rfl ?_
    (repeat (first | refine WL_nil ?_ | refine Then_normal ?_ | refine W_seq ?_))
    skip
    refine W_region rfl ?_
    refine WL_is (X_fieldAddr rfl rfl rfl (by simp only [Nat.zero_add] <;> rfl)) rfl rfl rfl ?_
    refine WL_is (X_load1 rfl rfl (by exact idx1) rfl rfl) rfl rfl rfl ?_
    refine WL_is (X_fieldAddr rfl rfl rfl (by simp only [Nat.zero_add] <;> rfl)) rfl rfl rfl ?_
    refine WL_is (X_load1 rfl rfl (by exact idx0) rfl rfl) rfl rfl rfl ?_
    refine WL_is (X_eql_f rfl rfl rfl (by omega)) rfl rfl rfl ?_
    refine WL_is (X_move rfl rfl) rfl rfl rfl ?_
    refine WL_off rfl rfl rfl ?_
    refine WL_off rfl rfl rfl ?_
    refine WL_off rfl rfl rfl ?_
    refine WL_off rfl rfl rfl ?_
    refine WL_off rfl rfl rfl ?_
    refine WL_is (X_pick_f rfl rfl rfl) rfl rfl rfl ?_
    refine WL_is (X_move rfl rfl) rfl rfl rfl ?_
    refine WL_off rfl rfl rfl ?_
    refine WL_off rfl rfl rfl ?_
    refine WL_off rfl rfl rfl ?_
    refine WL_off rfl rfl rfl ?_
    refine WL_off rfl rfl rfl ?_
    refine WL_is (X_pick_f rfl rfl rfl) rfl rfl rfl ?_
    refine WL_is (X_move rfl rfl) rfl rfl rfl ?_
    refine WL_off rfl rfl rfl ?_
    refine WL_off rfl rfl rfl ?_
    refine WL_off rfl rfl rfl ?_
    refine WL_off rfl rfl rfl ?_
    refine WL_off rfl rfl rfl ?_
    refine WL_is (X_pick_f rfl rfl rfl) rfl rfl rfl ?_
    refine WL_is (X_move rfl rfl) rfl rfl rfl ?_
    refine WL_off rfl rfl rfl ?_
    refine WL_off rfl rfl rfl ?_
    refine WL_off rfl rfl rfl ?_
    refine WL_off rfl rfl rfl ?_
    refine WL_off rfl rfl rfl ?_
    refine WL_is (X_pick_f rfl rfl rfl) rfl rfl rfl ?_
    refine WL_is (X_move rfl rfl) rfl rfl rfl ?_
    refine WL_off rfl rfl rfl ?_
    refine WL_off rfl rfl rfl ?_
    refine WL_off rfl rfl rfl ?_
    refine WL_off rfl rfl rfl ?_
    refine WL_off rfl rfl rfl ?_
    refine WL_is (X_pick_f rfl rfl rfl) rfl rfl rfl ?_
    refine WL_is (X_move rfl rfl) rfl rfl rfl ?_
    refine WL_off rfl rfl rfl ?_
    refine WL_off rfl rfl rfl ?_
    refine WL_off rfl rfl rfl ?_
    refine WL_off rfl rfl rfl ?_
    refine WL_off rfl rfl rfl ?_
    refine WL_is (X_pick_f rfl rfl rfl) rfl rfl rfl ?_
    refine WL_is (X_assign rfl rfl) rfl rfl rfl ?_
    (repeat (first | refine WL_nil ?_ | refine Then_normal ?_ | refine W_ret ?_))
    refine Body_end rfl rfl rfl (SubR.none _) ?_
    simp [h3]
set_option maxHeartbeats 2000000 in
theorem keyW_ref (h : PH) (s : ByteArray) (hb : s.size ≤ 9223372036854775807) : Does Try.prog 33 [.string s] [] h (Ret fun r _ _ => r = .bool (keyB s)) := by
  refine Does_of_W Try.func33 rfl (n := 22) rfl rfl (by simp only [argE] <;> rfl) ?_
  (repeat (first | refine W_seq ?_))
  skip
  refine W_region rfl ?_
  refine WL_is (X_assign rfl rfl) rfl rfl rfl ?_
  (repeat (first | refine WL_nil ?_ | refine Then_normal ?_ | refine W_seq ?_))
  skip
  refine W_region rfl ?_
  refine WL_is (X_assign rfl rfl) rfl rfl rfl ?_
  (repeat (first | refine WL_nil ?_ | refine Then_normal ?_ | refine W_block ?_))
  refine W_loop (X := Nat) (L := fun k => ⟨[(3, .int .i64 (k : Int)), (0, .string s)], [], [], h⟩) (p := fun k => k ≤ s.size ∧ ∀ j (hj : j < k) (hj' : j < s.data.toList.length), s.data.toList[j] ≠ 0) (μ := fun k => s.size - k) 0 ⟨(by repeat (first | exact SubE_nil | refine SubE_cons rfl ?_)), rfl, SubR.refl _, rfl⟩ ⟨Nat.zero_le _, fun j hj => by omega⟩ ?_
  rintro k ⟨hk, hgood⟩
  have hsz : s.data.toList.length = s.size := by simp
  by_cases hlt : k < s.size
  · have hlt' : k < s.data.toList.length := by omega
    have hlti : (k : Int) < s.size := by omega
    have hc : s.data.toList[(k : Int).toNat]? = some s.data.toList[k] := by simp
    have hz := byte_zero (c := s.data.toList[k])
    generalize hcc : s.data.toList[k] = c at hc hz
    by_cases h0 : c = 0
    · have h0' := hz.2 h0
      (repeat (first | refine W_seq ?_))
      refine W_region rfl ?_
      refine WL_is (X_move rfl rfl) rfl rfl rfl ?_
      refine WL_is (X_move rfl rfl) rfl rfl rfl ?_
      refine WL_is (X_len_str rfl rfl rfl) rfl rfl rfl ?_
      refine WL_is (X_lss_t rfl rfl rfl (by omega)) rfl rfl rfl ?_
      (repeat (first | refine WL_nil ?_ | refine Then_normal ?_ | refine W_seq ?_ | refine W_skip ?_ | refine W_block ?_ | refine W_true rfl ?_))
      skip
      refine W_region rfl ?_
      refine WL_is (X_move rfl rfl) rfl rfl rfl ?_
      refine WL_is (X_move rfl rfl) rfl rfl rfl ?_
      refine WL_is (X_index_str rfl rfl rfl rfl (by omega) (by assumption)) rfl rfl rfl ?_
      refine WL_is (X_eql_t rfl rfl rfl (by omega)) rfl rfl rfl ?_
      (repeat (first | refine WL_nil ?_ | refine Then_normal ?_ | refine W_seq ?_ | refine W_true rfl ?_))
      skip
      refine W_region rfl ?_
      refine WL_is (X_assign rfl rfl) rfl rfl rfl ?_
      (repeat (first | refine WL_nil ?_ | refine Then_normal ?_ | refine W_ret ?_ | refine Then_ret ?_ | refine inBlk_ret ?_))
      refine Body_end rfl rfl rfl (SubR.none _) ?_
      have : has0 s = true := decide_eq_true (h0 ▸ hcc ▸ List.getElem_mem _)
      unfold keyB; rw [this]; rfl
    · have h0' : ¬ (c.toNat : Int) = 0 := fun e => h0 (hz.1 e)
      (repeat (first | refine W_seq ?_))
      refine W_region rfl ?_
      refine WL_is (X_move rfl rfl) rfl rfl rfl ?_
      refine WL_is (X_move rfl rfl) rfl rfl rfl ?_
      refine WL_is (X_len_str rfl rfl rfl) rfl rfl rfl ?_
      refine WL_is (X_lss_t rfl rfl rfl (by omega)) rfl rfl rfl ?_
      (repeat (first | refine WL_nil ?_ | refine Then_normal ?_ | refine W_seq ?_ | refine W_skip ?_ | refine W_block ?_ | refine W_true rfl ?_))
      skip
      refine W_region rfl ?_
      refine WL_is (X_move rfl rfl) rfl rfl rfl ?_
      refine WL_is (X_move rfl rfl) rfl rfl rfl ?_
      refine WL_is (X_index_str rfl rfl rfl rfl (by omega) (by assumption)) rfl rfl rfl ?_
      refine WL_is (X_eql_f rfl rfl rfl (by omega)) rfl rfl rfl ?_
      (repeat (first | refine WL_nil ?_ | refine Then_normal ?_ | refine W_skip ?_ | refine inBlk_normal ?_ | refine W_false rfl ?_))
      skip
      refine W_region rfl ?_
      refine WL_is (X_move rfl rfl) rfl rfl rfl ?_
      refine WL_is (X_addW rfl rfl rfl (by exact wrap_i64_in (by omega) (by omega))) rfl rfl rfl ?_
      refine WL_is (X_assign rfl rfl) rfl rfl rfl ?_
      (repeat (first | refine WL_nil ?_ | refine Then_normal ?_))
      refine ⟨k + 1, ⟨(by repeat (first | exact SubE_nil | refine SubE_cons rfl ?_)), rfl, SubR.refl _, rfl⟩, ⟨by omega, fun j hj hj' => ?_⟩, by omega⟩
      rcases Nat.lt_or_ge j k with h1 | h1
      · exact hgood j h1 hj'
      · have : j = k := by omega
        subst this; rw [hcc]; exact h0
  · have hno : has0 s = false := decide_eq_false fun hm => by
      obtain ⟨j, hj, e⟩ := List.getElem_of_mem hm
      exact hgood j (by omega) hj e
    have hlti : ¬ (k : Int) < s.size := by omega
    have hk2 : keyB s = (decide (1 ≤ s.size) && decide (s.size ≤ 8)) := by unfold keyB; rw [hno]; rfl
    rw [hk2]
    by_cases h1 : 1 ≤ s.size
    · have h1' : (1 : Int) ≤ s.size := by omega
      by_cases h8 : s.size ≤ 8
      · have h8' : (s.size : Int) ≤ 8 := by omega
        (repeat (first | refine W_seq ?_))
        refine W_region rfl ?_
        refine WL_is (X_move rfl rfl) rfl rfl rfl ?_
        refine WL_is (X_move rfl rfl) rfl rfl rfl ?_
        refine WL_is (X_len_str rfl rfl rfl) rfl rfl rfl ?_
        refine WL_is (X_lss_f rfl rfl rfl (by omega)) rfl rfl rfl ?_
        (repeat (first | refine WL_nil ?_ | refine Then_normal ?_ | refine W_seq ?_ | refine W_exit ?_ | refine Then_exit ?_ | refine inBlk_here ?_ | refine W_false rfl ?_))
        skip
        refine W_region rfl ?_
        refine WL_is (X_move rfl rfl) rfl rfl rfl ?_
        refine WL_is (X_len_str rfl rfl rfl) rfl rfl rfl ?_
        refine WL_is (X_geq_t rfl rfl rfl (by omega)) rfl rfl rfl ?_
        refine WL_is (X_move rfl rfl) rfl rfl rfl ?_
        refine WL_is (X_move rfl rfl) rfl rfl rfl ?_
        refine WL_is (X_len_str rfl rfl rfl) rfl rfl rfl ?_
        refine WL_is (X_leq_t rfl rfl rfl (by omega)) rfl rfl rfl ?_
        refine WL_is (X_pick_t rfl rfl rfl) rfl rfl rfl ?_
        refine WL_is (X_assign rfl rfl) rfl rfl rfl ?_
        (repeat (first | refine WL_nil ?_ | refine Then_normal ?_ | refine W_ret ?_))
        refine Body_end rfl rfl rfl (SubR.none _) ?_
        simp [h1, h8]
      · have h8' : ¬ (s.size : Int) ≤ 8 := by omega
        (repeat (first | refine W_seq ?_))
        refine W_region rfl ?_
        refine WL_is (X_move rfl rfl) rfl rfl rfl ?_
        refine WL_is (X_move rfl rfl) rfl rfl rfl ?_
        refine WL_is (X_len_str rfl rfl rfl) rfl rfl rfl ?_
        refine WL_is (X_lss_f rfl rfl rfl (by omega)) rfl rfl rfl ?_
        (repeat (first | refine WL_nil ?_ | refine Then_normal ?_ | refine W_seq ?_ | refine W_exit ?_ | refine Then_exit ?_ | refine inBlk_here ?_ | refine W_false rfl ?_))
        skip
        refine W_region rfl ?_
        refine WL_is (X_move rfl rfl) rfl rfl rfl ?_
        refine WL_is (X_len_str rfl rfl rfl) rfl rfl rfl ?_
        refine WL_is (X_geq_t rfl rfl rfl (by omega)) rfl rfl rfl ?_
        refine WL_is (X_move rfl rfl) rfl rfl rfl ?_
        refine WL_is (X_move rfl rfl) rfl rfl rfl ?_
        refine WL_is (X_len_str rfl rfl rfl) rfl rfl rfl ?_
        refine WL_is (X_leq_f rfl rfl rfl (by omega)) rfl rfl rfl ?_
        refine WL_is (X_pick_t rfl rfl rfl) rfl rfl rfl ?_
        refine WL_is (X_assign rfl rfl) rfl rfl rfl ?_
        (repeat (first | refine WL_nil ?_ | refine Then_normal ?_ | refine W_ret ?_))
        refine Body_end rfl rfl rfl (SubR.none _) ?_
        simp [h8]
    · have h1' : ¬ (1 : Int) ≤ s.size := by omega
      (repeat (first | refine W_seq ?_))
      refine W_region rfl ?_
      refine WL_is (X_move rfl rfl) rfl rfl rfl ?_
      refine WL_is (X_move rfl rfl) rfl rfl rfl ?_
      refine WL_is (X_len_str rfl rfl rfl) rfl rfl rfl ?_
      refine WL_is (X_lss_f rfl rfl rfl (by omega)) rfl rfl rfl ?_
      (repeat (first | refine WL_nil ?_ | refine Then_normal ?_ | refine W_seq ?_ | refine W_exit ?_ | refine Then_exit ?_ | refine inBlk_here ?_ | refine W_false rfl ?_))
      skip
      refine W_region rfl ?_
      refine WL_is (X_move rfl rfl) rfl rfl rfl ?_
      refine WL_is (X_len_str rfl rfl rfl) rfl rfl rfl ?_
      refine WL_is (X_geq_f rfl rfl rfl (by omega)) rfl rfl rfl ?_
      refine WL_is (X_move rfl rfl) rfl rfl rfl ?_
      refine WL_off rfl rfl rfl ?_
      refine WL_off rfl rfl rfl ?_
      refine WL_off rfl rfl rfl ?_
      refine WL_is (X_pick_f rfl rfl rfl) rfl rfl rfl ?_
      refine WL_is (X_assign rfl rfl) rfl rfl rfl ?_
      (repeat (first | refine WL_nil ?_ | refine Then_normal ?_ | refine W_ret ?_))
      refine Body_end rfl rfl rfl (SubR.none _) ?_
      simp [h1]
set_option maxHeartbeats 2000000 in
theorem attrMayW_ref (h : PH) (a : Attr) (v : Value) (hv : AttrV h v a) (hs : a.wide) (hok : a.Ok) : Does Try.prog 15 [v] [] h (Ret fun r _ _ => r = .bool a.may) := by
  have hbits := hok.bits
  unfold u8 at hbits
  obtain ⟨u, g, u2, g2, x, rfl, h1, h2, h3, h4, h5⟩ := hv
  have hA : AclV h (aclV a.acc u g) a.acc := ⟨u, g, rfl, h1, h2⟩
  have hD : AclV h (aclV a.df u2 g2) a.df := ⟨u2, g2, rfl, h3, h4⟩
  have hZ : AclV h (aclV acl0 (.slice none 0 0) (.slice none 0 0)) acl0 := ⟨_, _, rfl, Sl.nil, Sl.nil⟩
  have c1 := mayW_ref h a.df _ hD hs.df hok.df
  have c2 := same_aclW_ref h a.df acl0 _ _ hD hZ hs.df ⟨by decide, by decide⟩
  have c3 := mayW_ref h a.acc _ hA hs.acc hok.acc
  have hm2 : a.may = (decide (a.bits ≤ 7) && a.acc.may && decide (a.xs.length ≤ 4) && (if a.hd then a.df.may else decide (a.df = acl0)) && allB a.xs.length (goodX a.xs)) := rfl
  obtain ⟨ddb, hddb⟩ : ∃ b, (if a.hd then a.df.may else decide (a.df = acl0)) = b := ⟨_, rfl⟩
  rw [hddb] at hm2
  simp only [aclV] at c1 c2 c3
  obtain ⟨xa, xc, rfl⟩ := h5.shape
  unfold attrV
  refine Does_of_W Try.func15 rfl (n := 78) rfl rfl (by simp only [argE] <;> rfl) ?_
  by_cases hb7 : a.bits ≤ 7
  · cases hm : a.acc.may with
    | false =>
      rw [hm] at c3
      (repeat (first | refine W_seq ?_))
      skip
      refine W_region rfl ?_
      (refine WL_box rfl rfl rfl rfl rfl rfl ?_; intro b_)
      refine WL_is (X_assign rfl rfl) rfl rfl rfl ?_
      (repeat (first | refine WL_nil ?_ | refine Then_normal ?_ | refine W_seq ?_))
      skip
      refine W_region rfl ?_
      refine WL_is (X_fieldAddr rfl rfl rfl (by simp only [Nat.zero_add] <;> rfl)) rfl rfl rfl ?_
      refine WL_is (X_load1 rfl rfl (by exact idx0) rfl rfl) rfl rfl rfl ?_
      refine WL_is (X_gtr_f rfl rfl rfl (by omega)) rfl rfl rfl ?_
      refine WL_is (X_move rfl rfl) rfl rfl rfl ?_
      refine WL_is (X_fieldAddr rfl rfl rfl (by simp only [Nat.zero_add] <;> rfl)) rfl rfl rfl ?_
      refine WL_is (X_loadA rfl rfl (by exact idx0) rfl rfl rfl) rfl rfl rfl ?_
      refine WL_is (X_callv rfl rfl rfl Try.func32 rfl (by assumption)) rfl rfl rfl ?_
      refine WL_is (X_not rfl rfl) rfl rfl rfl ?_
      refine WL_is (X_pick_f rfl rfl rfl) rfl rfl rfl ?_
      refine WL_is (X_move rfl rfl) rfl rfl rfl ?_
      refine WL_off rfl rfl rfl ?_
      refine WL_off rfl rfl rfl ?_
      refine WL_off rfl rfl rfl ?_
      refine WL_off rfl rfl rfl ?_
      refine WL_is (X_pick_t rfl rfl rfl) rfl rfl rfl ?_
      (repeat (first | refine WL_nil ?_ | refine Then_normal ?_ | refine W_seq ?_ | refine W_true rfl ?_))
      skip
      refine W_region rfl ?_
      refine WL_is (X_assign rfl rfl) rfl rfl rfl ?_
      (repeat (first | refine WL_nil ?_ | refine Then_normal ?_ | refine W_ret ?_ | refine Then_ret ?_))
      refine Body_end rfl rfl rfl (SubR.none _) ?_
      rw [hm2, hm]; simp
    | true =>
      rw [hm] at c3
      by_cases hx4 : a.xs.length ≤ 4
      · (repeat (first | refine W_seq ?_))
        skip
        refine W_region rfl ?_
        (refine WL_box rfl rfl rfl rfl rfl rfl ?_; intro b_)
        refine WL_is (X_assign rfl rfl) rfl rfl rfl ?_
        (repeat (first | refine WL_nil ?_ | refine Then_normal ?_ | refine W_seq ?_))
        generalize b_ = bb
        skip
        refine W_region rfl ?_
        refine WL_is (X_fieldAddr rfl rfl rfl (by simp only [Nat.zero_add] <;> rfl)) rfl rfl rfl ?_
        refine WL_is (X_load1 rfl rfl (by exact idx0) rfl rfl) rfl rfl rfl ?_
        refine WL_is (X_gtr_f rfl rfl rfl (by omega)) rfl rfl rfl ?_
        refine WL_is (X_move rfl rfl) rfl rfl rfl ?_
        refine WL_is (X_fieldAddr rfl rfl rfl (by simp only [Nat.zero_add] <;> rfl)) rfl rfl rfl ?_
        refine WL_is (X_loadA rfl rfl (by exact idx0) rfl rfl rfl) rfl rfl rfl ?_
        refine WL_is (X_callv rfl rfl rfl Try.func32 rfl (by assumption)) rfl rfl rfl ?_
        refine WL_is (X_not rfl rfl) rfl rfl rfl ?_
        refine WL_is (X_pick_f rfl rfl rfl) rfl rfl rfl ?_
        refine WL_is (X_move rfl rfl) rfl rfl rfl ?_
        refine WL_is (X_fieldAddr rfl rfl rfl (by simp only [Nat.zero_add] <;> rfl)) rfl rfl rfl ?_
        refine WL_is (X_load1 rfl rfl (by exact idx0) rfl rfl) rfl rfl rfl ?_
        refine WL_is (X_len_sl rfl rfl rfl (by assumption)) rfl rfl rfl ?_
        refine WL_is (X_gtr_f rfl rfl rfl (by omega)) rfl rfl rfl ?_
        refine WL_is (X_pick_f rfl rfl rfl) rfl rfl rfl ?_
        (repeat (first | refine WL_nil ?_ | refine Then_normal ?_ | refine W_seq ?_ | refine W_skip ?_ | refine W_false rfl ?_))
        refine W_cutT (X := Unit) (L := fun _ => ⟨[(1, .pointer (some ⟨bb, 0, none⟩)), (39, .bool (!ddb))], [], [blk bb (attrC a u g u2 g2 (.slice xa a.xs.length xc)) 31], h⟩) (fun _ => True) ?_ ?_
        · cases hh : a.hd with
          | true =>
            rw [hh] at hddb
            simp only [if_true] at hddb
            rw [hddb] at c1
            cases ddb with
            | true =>
              skip
              refine W_region rfl ?_
              refine WL_is (X_fieldAddr rfl rfl rfl (by simp only [Nat.zero_add] <;> rfl)) rfl rfl rfl ?_
              refine WL_is (X_load1 rfl rfl (by exact idx0) rfl rfl) rfl rfl rfl ?_
              refine WL_is (X_move rfl rfl) rfl rfl rfl ?_
              refine WL_is (X_fieldAddr rfl rfl rfl (by simp only [Nat.zero_add] <;> rfl)) rfl rfl rfl ?_
              refine WL_is (X_loadA rfl rfl (by exact idx0) rfl rfl rfl) rfl rfl rfl ?_
              refine WL_is (X_callv rfl rfl rfl Try.func32 rfl (by assumption)) rfl rfl rfl ?_
              refine WL_is (X_not rfl rfl) rfl rfl rfl ?_
              refine WL_is (X_pick_t rfl rfl rfl) rfl rfl rfl ?_
              refine WL_is (X_move rfl rfl) rfl rfl rfl ?_
              refine WL_is (X_fieldAddr rfl rfl rfl (by simp only [Nat.zero_add] <;> rfl)) rfl rfl rfl ?_
              refine WL_is (X_load1 rfl rfl (by exact idx0) rfl rfl) rfl rfl rfl ?_
              refine WL_is (X_not rfl rfl) rfl rfl rfl ?_
              refine WL_is (X_move rfl rfl) rfl rfl rfl ?_
              refine WL_off rfl rfl rfl ?_
              refine WL_off rfl rfl rfl ?_
              refine WL_off rfl rfl rfl ?_
              refine WL_off rfl rfl rfl ?_
              refine WL_off rfl rfl rfl ?_
              refine WL_is (X_pick_f rfl rfl rfl) rfl rfl rfl ?_
              refine WL_is (X_pick_f rfl rfl rfl) rfl rfl rfl ?_
              (repeat (first | refine WL_nil ?_ | refine Then_normal ?_))
              exact ⟨(), ⟨by simp only; exact (by repeat (first | exact SubE_nil | refine SubE_cons rfl ?_)), rfl, by simp only [attrC, hh]; exact SubR.refl _, rfl⟩, trivial⟩
            | false =>
              skip
              refine W_region rfl ?_
              refine WL_is (X_fieldAddr rfl rfl rfl (by simp only [Nat.zero_add] <;> rfl)) rfl rfl rfl ?_
              refine WL_is (X_load1 rfl rfl (by exact idx0) rfl rfl) rfl rfl rfl ?_
              refine WL_is (X_move rfl rfl) rfl rfl rfl ?_
              refine WL_is (X_fieldAddr rfl rfl rfl (by simp only [Nat.zero_add] <;> rfl)) rfl rfl rfl ?_
              refine WL_is (X_loadA rfl rfl (by exact idx0) rfl rfl rfl) rfl rfl rfl ?_
              refine WL_is (X_callv rfl rfl rfl Try.func32 rfl (by assumption)) rfl rfl rfl ?_
              refine WL_is (X_not rfl rfl) rfl rfl rfl ?_
              refine WL_is (X_pick_t rfl rfl rfl) rfl rfl rfl ?_
              refine WL_is (X_move rfl rfl) rfl rfl rfl ?_
              refine WL_off rfl rfl rfl ?_
              refine WL_off rfl rfl rfl ?_
              refine WL_off rfl rfl rfl ?_
              refine WL_off rfl rfl rfl ?_
              refine WL_off rfl rfl rfl ?_
              refine WL_off rfl rfl rfl ?_
              refine WL_off rfl rfl rfl ?_
              refine WL_off rfl rfl rfl ?_
              refine WL_off rfl rfl rfl ?_
              refine WL_off rfl rfl rfl ?_
              refine WL_is (X_pick_t rfl rfl rfl) rfl rfl rfl ?_
              (repeat (first | refine WL_nil ?_ | refine Then_normal ?_))
              exact ⟨(), ⟨by simp only; exact (by repeat (first | exact SubE_nil | refine SubE_cons rfl ?_)), rfl, by simp only [attrC, hh]; exact SubR.refl _, rfl⟩, trivial⟩
          | false =>
            rw [hh] at hddb
            simp only [Bool.false_eq_true, if_false] at hddb
            rw [hddb] at c2
            cases ddb with
            | true =>
              skip
              refine W_region rfl ?_
              refine WL_is (X_fieldAddr rfl rfl rfl (by simp only [Nat.zero_add] <;> rfl)) rfl rfl rfl ?_
              refine WL_is (X_load1 rfl rfl (by exact idx0) rfl rfl) rfl rfl rfl ?_
              refine WL_is (X_move rfl rfl) rfl rfl rfl ?_
              refine WL_off rfl rfl rfl ?_
              refine WL_off rfl rfl rfl ?_
              refine WL_off rfl rfl rfl ?_
              refine WL_off rfl rfl rfl ?_
              refine WL_is (X_pick_f rfl rfl rfl) rfl rfl rfl ?_
              refine WL_is (X_move rfl rfl) rfl rfl rfl ?_
              refine WL_is (X_fieldAddr rfl rfl rfl (by simp only [Nat.zero_add] <;> rfl)) rfl rfl rfl ?_
              refine WL_is (X_load1 rfl rfl (by exact idx0) rfl rfl) rfl rfl rfl ?_
              refine WL_is (X_not rfl rfl) rfl rfl rfl ?_
              refine WL_is (X_move rfl rfl) rfl rfl rfl ?_
              refine WL_is (X_fieldAddr rfl rfl rfl (by simp only [Nat.zero_add] <;> rfl)) rfl rfl rfl ?_
              refine WL_is (X_loadA rfl rfl (by exact idx0) rfl rfl rfl) rfl rfl rfl ?_
              refine WL_is (X_build rfl rfl rfl) rfl rfl rfl ?_
              refine WL_is (X_callv rfl rfl rfl Try.func16 rfl (by assumption)) rfl rfl rfl ?_
              refine WL_is (X_not rfl rfl) rfl rfl rfl ?_
              refine WL_is (X_pick_t rfl rfl rfl) rfl rfl rfl ?_
              refine WL_is (X_pick_f rfl rfl rfl) rfl rfl rfl ?_
              (repeat (first | refine WL_nil ?_ | refine Then_normal ?_))
              exact ⟨(), ⟨by simp only; exact (by repeat (first | exact SubE_nil | refine SubE_cons rfl ?_)), rfl, by simp only [attrC, hh]; exact SubR.refl _, rfl⟩, trivial⟩
            | false =>
              skip
              refine W_region rfl ?_
              refine WL_is (X_fieldAddr rfl rfl rfl (by simp only [Nat.zero_add] <;> rfl)) rfl rfl rfl ?_
              refine WL_is (X_load1 rfl rfl (by exact idx0) rfl rfl) rfl rfl rfl ?_
              refine WL_is (X_move rfl rfl) rfl rfl rfl ?_
              refine WL_off rfl rfl rfl ?_
              refine WL_off rfl rfl rfl ?_
              refine WL_off rfl rfl rfl ?_
              refine WL_off rfl rfl rfl ?_
              refine WL_is (X_pick_f rfl rfl rfl) rfl rfl rfl ?_
              refine WL_is (X_move rfl rfl) rfl rfl rfl ?_
              refine WL_is (X_fieldAddr rfl rfl rfl (by simp only [Nat.zero_add] <;> rfl)) rfl rfl rfl ?_
              refine WL_is (X_load1 rfl rfl (by exact idx0) rfl rfl) rfl rfl rfl ?_
              refine WL_is (X_not rfl rfl) rfl rfl rfl ?_
              refine WL_is (X_move rfl rfl) rfl rfl rfl ?_
              refine WL_is (X_fieldAddr rfl rfl rfl (by simp only [Nat.zero_add] <;> rfl)) rfl rfl rfl ?_
              refine WL_is (X_loadA rfl rfl (by exact idx0) rfl rfl rfl) rfl rfl rfl ?_
              refine WL_is (X_build rfl rfl rfl) rfl rfl rfl ?_
              refine WL_is (X_callv rfl rfl rfl Try.func16 rfl (by assumption)) rfl rfl rfl ?_
              refine WL_is (X_not rfl rfl) rfl rfl rfl ?_
              refine WL_is (X_pick_t rfl rfl rfl) rfl rfl rfl ?_
              refine WL_is (X_pick_f rfl rfl rfl) rfl rfl rfl ?_
              (repeat (first | refine WL_nil ?_ | refine Then_normal ?_))
              exact ⟨(), ⟨by simp only; exact (by repeat (first | exact SubE_nil | refine SubE_cons rfl ?_)), rfl, by simp only [attrC, hh]; exact SubR.refl _, rfl⟩, trivial⟩
        rintro - -
        cases ddb with
        | false =>
          (repeat (first | refine W_seq ?_ | refine W_true rfl ?_))
          skip
          refine W_region rfl ?_
          refine WL_is (X_assign rfl rfl) rfl rfl rfl ?_
          (repeat (first | refine WL_nil ?_ | refine Then_normal ?_ | refine W_ret ?_ | refine Then_ret ?_))
          refine Body_end rfl rfl rfl (SubR.none _) ?_
          rw [hm2]; simp
        | true =>
          rw [hb7 |> decide_eq_true, hx4 |> decide_eq_true, hm] at hm2
          simp only [Bool.true_and] at hm2
          rw [hm2]
          (repeat (first | refine Then_normal ?_ | refine W_seq ?_ | refine W_skip ?_ | refine W_false rfl ?_))
          skip
          refine W_region rfl ?_
          refine WL_is (X_assign rfl rfl) rfl rfl rfl ?_
          (repeat (first | refine WL_nil ?_ | refine Then_normal ?_ | refine W_block ?_))
          refine W_loop (X := Nat) (L := fun k => ⟨[(3, .int .i64 (k : Int)), (1, .pointer (some ⟨bb, 0, none⟩))], [], [blk bb (attrC a u g u2 g2 (.slice xa a.xs.length xc)) 31], h⟩)
            (p := fun k => k ≤ a.xs.length ∧ ∀ j, j < k → goodX a.xs j = true) (μ := fun k => a.xs.length - k) 0 ⟨(by repeat (first | exact SubE_nil | refine SubE_cons rfl ?_)), rfl, SubR.refl _, rfl⟩ ⟨Nat.zero_le _, fun j hj => by omega⟩ ?_
          rintro k ⟨hk, hgood⟩
          by_cases hlt : k < a.xs.length
          · have c4 := keyW_ref h a.xs[k].1 (hs.ks _ (List.getElem_mem hlt))
            have hvv : valB a.xs[k] = (keyB a.xs[k].1 && decide (a.xs[k].2.size ≤ 16)) := rfl
            (repeat (first | refine W_seq ?_))
            refine W_region rfl ?_
            refine WL_is (X_move rfl rfl) rfl rfl rfl ?_
            refine WL_is (X_fieldAddr rfl rfl rfl (by simp only [Nat.zero_add] <;> rfl)) rfl rfl rfl ?_
            refine WL_is (X_load1 rfl rfl (by exact idx0) rfl rfl) rfl rfl rfl ?_
            refine WL_is (X_len_sl rfl rfl rfl (by assumption)) rfl rfl rfl ?_
            refine WL_is (X_lss_t rfl rfl rfl (by omega)) rfl rfl rfl ?_
            (repeat (first | refine WL_nil ?_ | refine Then_normal ?_ | refine W_seq ?_ | refine W_skip ?_ | refine W_block ?_ | refine W_true rfl ?_))
            skip
            refine W_region rfl ?_
            refine WL_is (X_fieldAddr rfl rfl rfl (by simp only [Nat.zero_add] <;> rfl)) rfl rfl rfl ?_
            refine WL_is (X_load1 rfl rfl (by exact idx0) rfl rfl) rfl rfl rfl ?_
            refine WL_is (X_move rfl rfl) rfl rfl rfl ?_
            (refine WL_index_slN rfl rfl rfl rfl rfl (by assumption) (by omega) rfl rfl rfl ?_; intro p_ hp_)
            refine WL_is (X_loadA_at rfl rfl (by assumption) rfl rfl rfl) rfl rfl rfl ?_
            (refine WL_alloc rfl rfl rfl rfl rfl rfl ?_; intro b_)
            refine WL_store rfl rfl rfl (by exact idx0) rfl rfl rfl rfl rfl rfl rfl rfl rfl ?_
            (repeat (first | refine WL_nil ?_ | refine Then_normal ?_ | refine W_seq ?_))
            generalize b_ = xb
            rcases Nat.eq_zero_or_pos k with rfl | hpos
            · have hgx := goodX_0 hlt
              cases hkb : keyB a.xs[0].1 with
              | false =>
                rw [hkb] at c4 hvv
                skip
                refine W_draw0 23 rfl rfl rfl rfl ?_
                refine RG_val rfl rfl (fun _ => rfl) (fun _ => X_fieldAddr rfl rfl rfl (by simp only [Nat.zero_add] <;> rfl)) ?_
                refine RG_val rfl rfl (fun _ => rfl) (fun _ => X_load1 rfl rfl (by exact idx0) rfl rfl) ?_
                refine RG_val rfl rfl (fun _ => rfl) (fun _ => X_callv rfl rfl rfl Try.func33 rfl (by assumption)) ?_
                refine RG_val rfl rfl (fun _ => rfl) (fun _ => X_not rfl rfl) ?_
                refine RG_val rfl rfl (fun _ => rfl) (fun _ => X_move rfl rfl) ?_
                refine RG_off rfl rfl (fun _ => rfl) ?_
                refine RG_off rfl rfl (fun _ => rfl) ?_
                refine RG_off rfl rfl (fun _ => rfl) ?_
                refine RG_off rfl rfl (fun _ => rfl) ?_
                refine RG_val rfl rfl (fun _ => rfl) (fun _ => X_pick_t rfl rfl rfl) ?_
                refine RG_val rfl rfl (fun _ => rfl) (fun _ => X_move rfl rfl) ?_
                refine RG_off rfl rfl (fun _ => rfl) ?_
                refine RG_off rfl rfl (fun _ => rfl) ?_
                refine RG_off rfl rfl (fun _ => rfl) ?_
                refine RG_off rfl rfl (fun _ => rfl) ?_
                refine RG_off rfl rfl (fun _ => rfl) ?_
                refine RG_off rfl rfl (fun _ => rfl) ?_
                refine RG_off rfl rfl (fun _ => rfl) ?_
                refine RG_off rfl rfl (fun _ => rfl) ?_
                refine RG_off rfl rfl (fun _ => rfl) ?_
                refine RG_off rfl rfl (fun _ => rfl) ?_
                refine RG_off rfl rfl (fun _ => rfl) ?_
                refine RG_off rfl rfl (fun _ => rfl) ?_
                refine RG_nil ?_
                refine RG_endv rfl (fun vs => by simp only [endE, List.cons_append, List.nil_append] <;> rfl) (fun vs => rfl) ?_
                refine WL_off rfl rfl rfl ?_
                refine WL_off rfl rfl rfl ?_
                refine WL_is (X_pick_t rfl rfl rfl) rfl rfl rfl ?_
                (repeat (first | refine WL_nil ?_ | refine Then_normal ?_ | refine W_seq ?_ | refine W_true rfl ?_))
                skip
                refine W_region rfl ?_
                refine WL_is (X_assign rfl rfl) rfl rfl rfl ?_
                (repeat (first | refine WL_nil ?_ | refine Then_normal ?_ | refine W_ret ?_ | refine Then_ret ?_ | refine inBlk_ret ?_))
                refine Body_end rfl rfl rfl (SubR.none _) ?_
                rw [allB_false hlt (hgx.trans hvv)]
              | true =>
                rw [hkb] at c4 hvv
                by_cases h16 : a.xs[0].2.size ≤ 16
                · have h16' : ¬ (a.xs[0].2.size : Int) > 16 := by omega
                  skip
                  refine W_draw0 23 rfl rfl rfl rfl ?_
                  refine RG_val rfl rfl (fun _ => rfl) (fun _ => X_fieldAddr rfl rfl rfl (by simp only [Nat.zero_add] <;> rfl)) ?_
                  refine RG_val rfl rfl (fun _ => rfl) (fun _ => X_load1 rfl rfl (by exact idx0) rfl rfl) ?_
                  refine RG_val rfl rfl (fun _ => rfl) (fun _ => X_callv rfl rfl rfl Try.func33 rfl (by assumption)) ?_
                  refine RG_val rfl rfl (fun _ => rfl) (fun _ => X_not rfl rfl) ?_
                  refine RG_val rfl rfl (fun _ => rfl) (fun _ => X_move rfl rfl) ?_
                  refine RG_val rfl rfl (fun _ => rfl) (fun _ => X_fieldAddr rfl rfl rfl (by simp only [Nat.zero_add] <;> rfl)) ?_
                  refine RG_val rfl rfl (fun _ => rfl) (fun _ => X_load1 rfl rfl (by exact idx0) rfl rfl) ?_
                  refine RG_val rfl rfl (fun _ => rfl) (fun _ => X_len_str rfl rfl rfl) ?_
                  refine RG_val rfl rfl (fun _ => rfl) (fun _ => X_gtr_f rfl rfl rfl (by omega)) ?_
                  refine RG_val rfl rfl (fun _ => rfl) (fun _ => X_pick_f rfl rfl rfl) ?_
                  refine RG_val rfl rfl (fun _ => rfl) (fun _ => X_move rfl rfl) ?_
                  refine RG_val rfl rfl (fun _ => rfl) (fun _ => X_move rfl rfl) ?_
                  refine RG_val rfl rfl (fun _ => rfl) (fun _ => X_gtr_f rfl rfl rfl (by omega)) ?_
                  refine RG_val rfl rfl (fun _ => rfl) (fun _ => X_move rfl rfl) ?_
                  refine RG_off rfl rfl (fun _ => rfl) ?_
                  refine RG_off rfl rfl (fun _ => rfl) ?_
                  refine RG_off rfl rfl (fun _ => rfl) ?_
                  refine RG_off rfl rfl (fun _ => rfl) ?_
                  refine RG_off rfl rfl (fun _ => rfl) ?_
                  refine RG_off rfl rfl (fun _ => rfl) ?_
                  refine RG_off rfl rfl (fun _ => rfl) ?_
                  refine RG_off rfl rfl (fun _ => rfl) ?_
                  refine RG_off rfl rfl (fun _ => rfl) ?_
                  refine RG_nil ?_
                  refine RG_endv rfl (fun vs => by simp only [endE, List.cons_append, List.nil_append] <;> rfl) (fun vs => rfl) ?_
                  refine WL_off rfl rfl rfl ?_
                  refine WL_is (X_pick_f rfl rfl rfl) rfl rfl rfl ?_
                  refine WL_is (X_pick_f rfl rfl rfl) rfl rfl rfl ?_
                  (repeat (first | refine WL_nil ?_ | refine Then_normal ?_ | refine W_skip ?_ | refine inBlk_normal ?_ | refine W_false rfl ?_))
                  skip
                  refine W_region rfl ?_
                  refine WL_is (X_move rfl rfl) rfl rfl rfl ?_
                  refine WL_is (X_addW rfl rfl rfl (by exact wrap_i64_in (by omega) (by omega))) rfl rfl rfl ?_
                  refine WL_is (X_assign rfl rfl) rfl rfl rfl ?_
                  (repeat (first | refine WL_nil ?_ | refine Then_normal ?_))
                  refine ⟨0 + 1, ⟨(by repeat (first | exact SubE_nil | refine SubE_cons rfl ?_)), rfl, SubR.skip _ (SubR.refl _), rfl⟩, ⟨by omega, fun j hj => ?_⟩, by omega⟩
                  have : j = 0 := by omega
                  subst this; rw [hgx, hvv, decide_eq_true h16]; rfl
                · have h16' : (a.xs[0].2.size : Int) > 16 := by omega
                  skip
                  refine W_draw0 23 rfl rfl rfl rfl ?_
                  refine RG_val rfl rfl (fun _ => rfl) (fun _ => X_fieldAddr rfl rfl rfl (by simp only [Nat.zero_add] <;> rfl)) ?_
                  refine RG_val rfl rfl (fun _ => rfl) (fun _ => X_load1 rfl rfl (by exact idx0) rfl rfl) ?_
                  refine RG_val rfl rfl (fun _ => rfl) (fun _ => X_callv rfl rfl rfl Try.func33 rfl (by assumption)) ?_
                  refine RG_val rfl rfl (fun _ => rfl) (fun _ => X_not rfl rfl) ?_
                  refine RG_val rfl rfl (fun _ => rfl) (fun _ => X_move rfl rfl) ?_
                  refine RG_val rfl rfl (fun _ => rfl) (fun _ => X_fieldAddr rfl rfl rfl (by simp only [Nat.zero_add] <;> rfl)) ?_
                  refine RG_val rfl rfl (fun _ => rfl) (fun _ => X_load1 rfl rfl (by exact idx0) rfl rfl) ?_
                  refine RG_val rfl rfl (fun _ => rfl) (fun _ => X_len_str rfl rfl rfl) ?_
                  refine RG_val rfl rfl (fun _ => rfl) (fun _ => X_gtr_t rfl rfl rfl (by omega)) ?_
                  refine RG_val rfl rfl (fun _ => rfl) (fun _ => X_pick_f rfl rfl rfl) ?_
                  refine RG_val rfl rfl (fun _ => rfl) (fun _ => X_move rfl rfl) ?_
                  refine RG_off rfl rfl (fun _ => rfl) ?_
                  refine RG_off rfl rfl (fun _ => rfl) ?_
                  refine RG_off rfl rfl (fun _ => rfl) ?_
                  refine RG_off rfl rfl (fun _ => rfl) ?_
                  refine RG_off rfl rfl (fun _ => rfl) ?_
                  refine RG_off rfl rfl (fun _ => rfl) ?_
                  refine RG_off rfl rfl (fun _ => rfl) ?_
                  refine RG_off rfl rfl (fun _ => rfl) ?_
                  refine RG_off rfl rfl (fun _ => rfl) ?_
                  refine RG_off rfl rfl (fun _ => rfl) ?_
                  refine RG_off rfl rfl (fun _ => rfl) ?_
                  refine RG_off rfl rfl (fun _ => rfl) ?_
                  refine RG_nil ?_
                  refine RG_endv rfl (fun vs => by simp only [endE, List.cons_append, List.nil_append] <;> rfl) (fun vs => rfl) ?_
                  refine WL_off rfl rfl rfl ?_
                  refine WL_off rfl rfl rfl ?_
                  refine WL_is (X_pick_t rfl rfl rfl) rfl rfl rfl ?_
                  (repeat (first | refine WL_nil ?_ | refine Then_normal ?_ | refine W_seq ?_ | refine W_true rfl ?_))
                  skip
                  refine W_region rfl ?_
                  refine WL_is (X_assign rfl rfl) rfl rfl rfl ?_
                  (repeat (first | refine WL_nil ?_ | refine Then_normal ?_ | refine W_ret ?_ | refine Then_ret ?_ | refine inBlk_ret ?_))
                  refine Body_end rfl rfl rfl (SubR.none _) ?_
                  rw [allB_false hlt (by rw [hgx, hvv, decide_eq_false h16]; rfl)]
            · obtain ⟨j, rfl⟩ : ∃ j, k = j + 1 := ⟨k - 1, by omega⟩
              have hgx := goodX_s hlt
              have hj1 : j < a.xs.length := by omega
              cases hkb : keyB a.xs[j + 1].1 with
              | false =>
                rw [hkb] at c4 hvv
                skip
                refine W_draw0 23 rfl rfl rfl rfl ?_
                refine RG_val rfl rfl (fun _ => rfl) (fun _ => X_fieldAddr rfl rfl rfl (by simp only [Nat.zero_add] <;> rfl)) ?_
                refine RG_val rfl rfl (fun _ => rfl) (fun _ => X_load1 rfl rfl (by exact idx0) rfl rfl) ?_
                refine RG_val rfl rfl (fun _ => rfl) (fun _ => X_callv rfl rfl rfl Try.func33 rfl (by assumption)) ?_
                refine RG_val rfl rfl (fun _ => rfl) (fun _ => X_not rfl rfl) ?_
                refine RG_val rfl rfl (fun _ => rfl) (fun _ => X_move rfl rfl) ?_
                refine RG_off rfl rfl (fun _ => rfl) ?_
                refine RG_off rfl rfl (fun _ => rfl) ?_
                refine RG_off rfl rfl (fun _ => rfl) ?_
                refine RG_off rfl rfl (fun _ => rfl) ?_
                refine RG_val rfl rfl (fun _ => rfl) (fun _ => X_pick_t rfl rfl rfl) ?_
                refine RG_val rfl rfl (fun _ => rfl) (fun _ => X_move rfl rfl) ?_
                refine RG_off rfl rfl (fun _ => rfl) ?_
                refine RG_off rfl rfl (fun _ => rfl) ?_
                refine RG_off rfl rfl (fun _ => rfl) ?_
                refine RG_off rfl rfl (fun _ => rfl) ?_
                refine RG_off rfl rfl (fun _ => rfl) ?_
                refine RG_off rfl rfl (fun _ => rfl) ?_
                refine RG_off rfl rfl (fun _ => rfl) ?_
                refine RG_off rfl rfl (fun _ => rfl) ?_
                refine RG_off rfl rfl (fun _ => rfl) ?_
                refine RG_off rfl rfl (fun _ => rfl) ?_
                refine RG_off rfl rfl (fun _ => rfl) ?_
                refine RG_off rfl rfl (fun _ => rfl) ?_
                refine RG_nil ?_
                refine RG_endv rfl (fun vs => by simp only [endE, List.cons_append, List.nil_append] <;> rfl) (fun vs => rfl) ?_
                refine WL_off rfl rfl rfl ?_
                refine WL_off rfl rfl rfl ?_
                refine WL_is (X_pick_t rfl rfl rfl) rfl rfl rfl ?_
                (repeat (first | refine WL_nil ?_ | refine Then_normal ?_ | refine W_seq ?_ | refine W_true rfl ?_))
                skip
                refine W_region rfl ?_
                refine WL_is (X_assign rfl rfl) rfl rfl rfl ?_
                (repeat (first | refine WL_nil ?_ | refine Then_normal ?_ | refine W_ret ?_ | refine Then_ret ?_ | refine inBlk_ret ?_))
                refine Body_end rfl rfl rfl (SubR.none _) ?_
                rw [allB_false hlt (by rw [hgx, hvv]; rfl)]
              | true =>
                rw [hkb] at c4 hvv
                by_cases h16 : a.xs[j + 1].2.size ≤ 16
                · have h16' : ¬ (a.xs[j + 1].2.size : Int) > 16 := by omega
                  cases hge : strGe a.xs[j].1 a.xs[j + 1].1 with
                  | true =>
                    rw [hge] at hgx
                    skip
                    refine W_draw0 23 rfl rfl rfl rfl ?_
                    refine RG_val rfl rfl (fun _ => rfl) (fun _ => X_fieldAddr rfl rfl rfl (by simp only [Nat.zero_add] <;> rfl)) ?_
                    refine RG_val rfl rfl (fun _ => rfl) (fun _ => X_load1 rfl rfl (by exact idx0) rfl rfl) ?_
                    refine RG_val rfl rfl (fun _ => rfl) (fun _ => X_callv rfl rfl rfl Try.func33 rfl (by assumption)) ?_
                    refine RG_val rfl rfl (fun _ => rfl) (fun _ => X_not rfl rfl) ?_
                    refine RG_val rfl rfl (fun _ => rfl) (fun _ => X_move rfl rfl) ?_
                    refine RG_val rfl rfl (fun _ => rfl) (fun _ => X_fieldAddr rfl rfl rfl (by simp only [Nat.zero_add] <;> rfl)) ?_
                    refine RG_val rfl rfl (fun _ => rfl) (fun _ => X_load1 rfl rfl (by exact idx0) rfl rfl) ?_
                    refine RG_val rfl rfl (fun _ => rfl) (fun _ => X_len_str rfl rfl rfl) ?_
                    refine RG_val rfl rfl (fun _ => rfl) (fun _ => X_gtr_f rfl rfl rfl (by omega)) ?_
                    refine RG_val rfl rfl (fun _ => rfl) (fun _ => X_pick_f rfl rfl rfl) ?_
                    refine RG_val rfl rfl (fun _ => rfl) (fun _ => X_move rfl rfl) ?_
                    refine RG_val rfl rfl (fun _ => rfl) (fun _ => X_move rfl rfl) ?_
                    refine RG_val rfl rfl (fun _ => rfl) (fun _ => X_gtr_t rfl rfl rfl (by omega)) ?_
                    refine RG_val rfl rfl (fun _ => rfl) (fun _ => X_move rfl rfl) ?_
                    refine RG_val rfl rfl (fun _ => rfl) (fun _ => X_fieldAddr rfl rfl rfl (by simp only [Nat.zero_add] <;> rfl)) ?_
                    refine RG_val rfl rfl (fun _ => rfl) (fun _ => X_load1 rfl rfl (by exact idx1) rfl rfl) ?_
                    refine RG_val rfl rfl (fun _ => rfl) (fun _ => X_move rfl rfl) ?_
                    refine RG_val rfl rfl (fun _ => rfl) (fun _ => X_subW (c := (j : Int)) rfl rfl rfl (by rw [wrap_i64_in] <;> omega)) ?_
                    (refine RG_index_slN rfl rfl rfl (fun _ => rfl) (fun _ => rfl) (by assumption) (by omega) rfl rfl (fun _ => rfl) ?_; intro p_ hp_)
                    (refine RG_fieldAddr_at rfl (fun _ => rfl) (by assumption) rfl rfl rfl (fun _ => rfl) ?_; intro p_ hp_)
                    refine RG_val rfl rfl (fun _ => rfl) (fun _ => X_load1_at rfl rfl (by assumption) rfl rfl) ?_
                    refine RG_val rfl rfl (fun _ => rfl) (fun _ => X_fieldAddr rfl rfl rfl (by simp only [Nat.zero_add] <;> rfl)) ?_
                    refine RG_val rfl rfl (fun _ => rfl) (fun _ => X_load1 rfl rfl (by exact idx0) rfl rfl) ?_
                    refine RG_nil ?_
                    refine RG_endv rfl (fun vs => by simp only [endE, List.cons_append, List.nil_append] <;> rfl) (fun vs => rfl) ?_
                    refine WL_is (X_geS_c rfl rfl rfl (by assumption)) rfl rfl rfl ?_
                    refine WL_is (X_pick_t rfl rfl rfl) rfl rfl rfl ?_
                    refine WL_is (X_pick_f rfl rfl rfl) rfl rfl rfl ?_
                    (repeat (first | refine WL_nil ?_ | refine Then_normal ?_ | refine W_seq ?_ | refine W_true rfl ?_))
                    skip
                    refine W_region rfl ?_
                    refine WL_is (X_assign rfl rfl) rfl rfl rfl ?_
                    (repeat (first | refine WL_nil ?_ | refine Then_normal ?_ | refine W_ret ?_ | refine Then_ret ?_ | refine inBlk_ret ?_))
                    refine Body_end rfl rfl rfl (SubR.none _) ?_
                    rw [allB_false hlt (by rw [hgx]; simp)]
                  | false =>
                    rw [hge] at hgx
                    skip
                    refine W_draw0 23 rfl rfl rfl rfl ?_
                    refine RG_val rfl rfl (fun _ => rfl) (fun _ => X_fieldAddr rfl rfl rfl (by simp only [Nat.zero_add] <;> rfl)) ?_
                    refine RG_val rfl rfl (fun _ => rfl) (fun _ => X_load1 rfl rfl (by exact idx0) rfl rfl) ?_
                    refine RG_val rfl rfl (fun _ => rfl) (fun _ => X_callv rfl rfl rfl Try.func33 rfl (by assumption)) ?_
                    refine RG_val rfl rfl (fun _ => rfl) (fun _ => X_not rfl rfl) ?_
                    refine RG_val rfl rfl (fun _ => rfl) (fun _ => X_move rfl rfl) ?_
                    refine RG_val rfl rfl (fun _ => rfl) (fun _ => X_fieldAddr rfl rfl rfl (by simp only [Nat.zero_add] <;> rfl)) ?_
                    refine RG_val rfl rfl (fun _ => rfl) (fun _ => X_load1 rfl rfl (by exact idx0) rfl rfl) ?_
                    refine RG_val rfl rfl (fun _ => rfl) (fun _ => X_len_str rfl rfl rfl) ?_
                    refine RG_val rfl rfl (fun _ => rfl) (fun _ => X_gtr_f rfl rfl rfl (by omega)) ?_
                    refine RG_val rfl rfl (fun _ => rfl) (fun _ => X_pick_f rfl rfl rfl) ?_
                    refine RG_val rfl rfl (fun _ => rfl) (fun _ => X_move rfl rfl) ?_
                    refine RG_val rfl rfl (fun _ => rfl) (fun _ => X_move rfl rfl) ?_
                    refine RG_val rfl rfl (fun _ => rfl) (fun _ => X_gtr_t rfl rfl rfl (by omega)) ?_
                    refine RG_val rfl rfl (fun _ => rfl) (fun _ => X_move rfl rfl) ?_
                    refine RG_val rfl rfl (fun _ => rfl) (fun _ => X_fieldAddr rfl rfl rfl (by simp only [Nat.zero_add] <;> rfl)) ?_
                    refine RG_val rfl rfl (fun _ => rfl) (fun _ => X_load1 rfl rfl (by exact idx1) rfl rfl) ?_
                    refine RG_val rfl rfl (fun _ => rfl) (fun _ => X_move rfl rfl) ?_
                    refine RG_val rfl rfl (fun _ => rfl) (fun _ => X_subW (c := (j : Int)) rfl rfl rfl (by rw [wrap_i64_in] <;> omega)) ?_
                    (refine RG_index_slN rfl rfl rfl (fun _ => rfl) (fun _ => rfl) (by assumption) (by omega) rfl rfl (fun _ => rfl) ?_; intro p_ hp_)
                    (refine RG_fieldAddr_at rfl (fun _ => rfl) (by assumption) rfl rfl rfl (fun _ => rfl) ?_; intro p_ hp_)
                    refine RG_val rfl rfl (fun _ => rfl) (fun _ => X_load1_at rfl rfl (by assumption) rfl rfl) ?_
                    refine RG_val rfl rfl (fun _ => rfl) (fun _ => X_fieldAddr rfl rfl rfl (by simp only [Nat.zero_add] <;> rfl)) ?_
                    refine RG_val rfl rfl (fun _ => rfl) (fun _ => X_load1 rfl rfl (by exact idx0) rfl rfl) ?_
                    refine RG_nil ?_
                    refine RG_endv rfl (fun vs => by simp only [endE, List.cons_append, List.nil_append] <;> rfl) (fun vs => rfl) ?_
                    refine WL_is (X_geS_c rfl rfl rfl (by assumption)) rfl rfl rfl ?_
                    refine WL_is (X_pick_t rfl rfl rfl) rfl rfl rfl ?_
                    refine WL_is (X_pick_f rfl rfl rfl) rfl rfl rfl ?_
                    (repeat (first | refine WL_nil ?_ | refine Then_normal ?_ | refine W_skip ?_ | refine inBlk_normal ?_ | refine W_false rfl ?_))
                    skip
                    refine W_region rfl ?_
                    refine WL_is (X_move rfl rfl) rfl rfl rfl ?_
                    refine WL_is (X_addW rfl rfl rfl (by exact wrap_i64_in (by omega) (by omega))) rfl rfl rfl ?_
                    refine WL_is (X_assign rfl rfl) rfl rfl rfl ?_
                    (repeat (first | refine WL_nil ?_ | refine Then_normal ?_))
                    refine ⟨j + 1 + 1, ⟨(by repeat (first | exact SubE_nil | refine SubE_cons rfl ?_)), rfl, SubR.skip _ (SubR.refl _), rfl⟩, ⟨by omega, fun i hi => ?_⟩, by omega⟩
                    by_cases h1 : i < j + 1
                    · exact hgood i h1
                    · have : i = j + 1 := by omega
                      subst this; rw [hgx, hvv, decide_eq_true h16]; rfl
                · have h16' : (a.xs[j + 1].2.size : Int) > 16 := by omega
                  skip
                  refine W_draw0 23 rfl rfl rfl rfl ?_
                  refine RG_val rfl rfl (fun _ => rfl) (fun _ => X_fieldAddr rfl rfl rfl (by simp only [Nat.zero_add] <;> rfl)) ?_
                  refine RG_val rfl rfl (fun _ => rfl) (fun _ => X_load1 rfl rfl (by exact idx0) rfl rfl) ?_
                  refine RG_val rfl rfl (fun _ => rfl) (fun _ => X_callv rfl rfl rfl Try.func33 rfl (by assumption)) ?_
                  refine RG_val rfl rfl (fun _ => rfl) (fun _ => X_not rfl rfl) ?_
                  refine RG_val rfl rfl (fun _ => rfl) (fun _ => X_move rfl rfl) ?_
                  refine RG_val rfl rfl (fun _ => rfl) (fun _ => X_fieldAddr rfl rfl rfl (by simp only [Nat.zero_add] <;> rfl)) ?_
                  refine RG_val rfl rfl (fun _ => rfl) (fun _ => X_load1 rfl rfl (by exact idx0) rfl rfl) ?_
                  refine RG_val rfl rfl (fun _ => rfl) (fun _ => X_len_str rfl rfl rfl) ?_
                  refine RG_val rfl rfl (fun _ => rfl) (fun _ => X_gtr_t rfl rfl rfl (by omega)) ?_
                  refine RG_val rfl rfl (fun _ => rfl) (fun _ => X_pick_f rfl rfl rfl) ?_
                  refine RG_val rfl rfl (fun _ => rfl) (fun _ => X_move rfl rfl) ?_
                  refine RG_off rfl rfl (fun _ => rfl) ?_
                  refine RG_off rfl rfl (fun _ => rfl) ?_
                  refine RG_off rfl rfl (fun _ => rfl) ?_
                  refine RG_off rfl rfl (fun _ => rfl) ?_
                  refine RG_off rfl rfl (fun _ => rfl) ?_
                  refine RG_off rfl rfl (fun _ => rfl) ?_
                  refine RG_off rfl rfl (fun _ => rfl) ?_
                  refine RG_off rfl rfl (fun _ => rfl) ?_
                  refine RG_off rfl rfl (fun _ => rfl) ?_
                  refine RG_off rfl rfl (fun _ => rfl) ?_
                  refine RG_off rfl rfl (fun _ => rfl) ?_
                  refine RG_off rfl rfl (fun _ => rfl) ?_
                  refine RG_nil ?_
                  refine RG_endv rfl (fun vs => by simp only [endE, List.cons_append, List.nil_append] <;> rfl) (fun vs => rfl) ?_
                  refine WL_off rfl rfl rfl ?_
                  refine WL_off rfl rfl rfl ?_
                  refine WL_is (X_pick_t rfl rfl rfl) rfl rfl rfl ?_
                  (repeat (first | refine WL_nil ?_ | refine Then_normal ?_ | refine W_seq ?_ | refine W_true rfl ?_))
                  skip
                  refine W_region rfl ?_
                  refine WL_is (X_assign rfl rfl) rfl rfl rfl ?_
                  (repeat (first | refine WL_nil ?_ | refine Then_normal ?_ | refine W_ret ?_ | refine Then_ret ?_ | refine inBlk_ret ?_))
                  refine Body_end rfl rfl rfl (SubR.none _) ?_
                  rw [allB_false hlt (by rw [hgx, hvv, decide_eq_false h16]; rfl)]
          · have hall := allX_true (l := a.xs) (fun j hj => hgood j (by omega))
            (repeat (first | refine W_seq ?_))
            refine W_region rfl ?_
            refine WL_is (X_move rfl rfl) rfl rfl rfl ?_
            refine WL_is (X_fieldAddr rfl rfl rfl (by simp only [Nat.zero_add] <;> rfl)) rfl rfl rfl ?_
            refine WL_is (X_load1 rfl rfl (by exact idx0) rfl rfl) rfl rfl rfl ?_
            refine WL_is (X_len_sl rfl rfl rfl (by assumption)) rfl rfl rfl ?_
            refine WL_is (X_lss_f rfl rfl rfl (by omega)) rfl rfl rfl ?_
            (repeat (first | refine WL_nil ?_ | refine Then_normal ?_ | refine W_seq ?_ | refine W_exit ?_ | refine Then_exit ?_ | refine inBlk_here ?_ | refine W_false rfl ?_))
            skip
            refine W_region rfl ?_
            refine WL_is (X_assign rfl rfl) rfl rfl rfl ?_
            (repeat (first | refine WL_nil ?_ | refine Then_normal ?_ | refine W_ret ?_))
            refine Body_end rfl rfl rfl (SubR.none _) ?_
            rw [hall]
      · (repeat (first | refine W_seq ?_))
        skip
        refine W_region rfl ?_
        (refine WL_box rfl rfl rfl rfl rfl rfl ?_; intro b_)
        refine WL_is (X_assign rfl rfl) rfl rfl rfl ?_
        (repeat (first | refine WL_nil ?_ | refine Then_normal ?_ | refine W_seq ?_))
        skip
        refine W_region rfl ?_
        refine WL_is (X_fieldAddr rfl rfl rfl (by simp only [Nat.zero_add] <;> rfl)) rfl rfl rfl ?_
        refine WL_is (X_load1 rfl rfl (by exact idx0) rfl rfl) rfl rfl rfl ?_
        refine WL_is (X_gtr_f rfl rfl rfl (by omega)) rfl rfl rfl ?_
        refine WL_is (X_move rfl rfl) rfl rfl rfl ?_
        refine WL_is (X_fieldAddr rfl rfl rfl (by simp only [Nat.zero_add] <;> rfl)) rfl rfl rfl ?_
        refine WL_is (X_loadA rfl rfl (by exact idx0) rfl rfl rfl) rfl rfl rfl ?_
        refine WL_is (X_callv rfl rfl rfl Try.func32 rfl (by assumption)) rfl rfl rfl ?_
        refine WL_is (X_not rfl rfl) rfl rfl rfl ?_
        refine WL_is (X_pick_f rfl rfl rfl) rfl rfl rfl ?_
        refine WL_is (X_move rfl rfl) rfl rfl rfl ?_
        refine WL_is (X_fieldAddr rfl rfl rfl (by simp only [Nat.zero_add] <;> rfl)) rfl rfl rfl ?_
        refine WL_is (X_load1 rfl rfl (by exact idx0) rfl rfl) rfl rfl rfl ?_
        refine WL_is (X_len_sl rfl rfl rfl (by assumption)) rfl rfl rfl ?_
        refine WL_is (X_gtr_t rfl rfl rfl (by omega)) rfl rfl rfl ?_
        refine WL_is (X_pick_f rfl rfl rfl) rfl rfl rfl ?_
        (repeat (first | refine WL_nil ?_ | refine Then_normal ?_ | refine W_seq ?_ | refine W_true rfl ?_))
        skip
        refine W_region rfl ?_
        refine WL_is (X_assign rfl rfl) rfl rfl rfl ?_
        (repeat (first | refine WL_nil ?_ | refine Then_normal ?_ | refine W_ret ?_ | refine Then_ret ?_))
        refine Body_end rfl rfl rfl (SubR.none _) ?_
        rw [hm2]; simp [hx4]
  · (repeat (first | refine W_seq ?_))
    skip
    refine W_region rfl ?_
    (refine WL_box rfl rfl rfl rfl rfl rfl ?_; intro b_)
    refine WL_is (X_assign rfl rfl) rfl rfl rfl ?_
    (repeat (first | refine WL_nil ?_ | refine Then_normal ?_ | refine W_seq ?_))
    skip
    refine W_region rfl ?_
    refine WL_is (X_fieldAddr rfl rfl rfl (by simp only [Nat.zero_add] <;> rfl)) rfl rfl rfl ?_
    refine WL_is (X_load1 rfl rfl (by exact idx0) rfl rfl) rfl rfl rfl ?_
    refine WL_is (X_gtr_t rfl rfl rfl (by omega)) rfl rfl rfl ?_
    refine WL_is (X_move rfl rfl) rfl rfl rfl ?_
    refine WL_off rfl rfl rfl ?_
    refine WL_off rfl rfl rfl ?_
    refine WL_off rfl rfl rfl ?_
    refine WL_off rfl rfl rfl ?_
    refine WL_is (X_pick_t rfl rfl rfl) rfl rfl rfl ?_
    refine WL_is (X_move rfl rfl) rfl rfl rfl ?_
    refine WL_off rfl rfl rfl ?_
    refine WL_off rfl rfl rfl ?_
    refine WL_off rfl rfl rfl ?_
    refine WL_off rfl rfl rfl ?_
    refine WL_is (X_pick_t rfl rfl rfl) rfl rfl rfl ?_
    (repeat (first | refine WL_nil ?_ | refine Then_normal ?_ | refine W_seq ?_ | refine W_true rfl ?_))
    skip
    refine W_region rfl ?_
    refine WL_is (X_assign rfl rfl) rfl rfl rfl ?_
    (repeat (first | refine WL_nil ?_ | refine Then_normal ?_ | refine W_ret ?_ | refine Then_ret ?_))
    refine Body_end rfl rfl rfl (SubR.none _) ?_
    rw [hm2]; simp [hb7]
end Go.Proofs.Ytcgmbfgmofcemaa
