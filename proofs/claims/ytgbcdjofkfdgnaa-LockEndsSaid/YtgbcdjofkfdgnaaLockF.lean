/- Locks: asking for one; a new table. -/
import Derived.Test.YtgbcdjofkfdgnaaLockE
namespace Go.Proofs.Ytgbcdjofkfdgnaa
open Go Go.Par PH
def lastGt (L : List Int) (id : Int) : Bool := if h : 0 < L.length then decide (id < L[L.length - 1]) else false
def tup (a : Bool) (e : Int) : Value := .tuple #[.bool a, .int .i64 e]
/-- Nothing is in the way of one more in the queue. -/
def wantGo (qs : List (List Int)) (procs p id : Int) : Prop := mayE procs p = 0 ∧ (0 ≤ id ∧ id < qs.length) ∧ ¬ id ∈ holdsL qs p qs.length ∧ lastGt (holdsL qs p qs.length) id = false ∧ ¬ waitsN qs p < qs.length
instance (qs : List (List Int)) (procs p id : Int) : Decidable (wantGo qs procs p id) := by unfold wantGo; infer_instance
def wantV (qs : List (List Int)) (procs p id : Int) : Value :=
  if mayE procs p ≠ 0 then tup false 2 else if ¬ (0 ≤ id ∧ id < qs.length) then tup false 2 else if id ∈ holdsL qs p qs.length then tup true 0
  else if (waitsN qs p < qs.length ∧ (waitsN qs p : Int) ≠ id) ∨ lastGt (holdsL qs p qs.length) id = true then tup false 6 else if waitsN qs p < qs.length then tup false 0
  else tup (decide ((queueAt qs id).length = 0)) 0
def wantQ (qs : List (List Int)) (procs p id : Int) : List (List Int) := if wantGo qs procs p id then qs.set id.toNat (queueAt qs id ++ [p]) else qs
attribute [local irreducible] W WL Does Exec Body Then inBlk RG WR row obj pblk
set_option maxHeartbeats 2000000 in
theorem want_fn (h : PH) (b : Nat) (qs : List (List Int)) (procs p id : Int) (ok : QOk qs) : Does Try.prog 13 [.pointer (some ⟨b, 0, none⟩), .int .i64 p, .int .i64 id] [tabL 49 b qs procs] h
    (Ret fun r R' _ => r = wantV qs procs p id ∧ R' = [tabL 49 b (wantQ qs procs p id) procs]) := by
  have hmay := fun h => lend (t := 49) (b := b) (procs := procs) (h := h) ok (fun h v vs K => may_fn h b v vs qs procs p K)
  have hholds := fun h => lend (t := 49) (b := b) (procs := procs) (h := h) ok (fun h v vs K => holds_fn h b v vs qs procs p K)
  have hwaits := fun h => lend (t := 49) (b := b) (procs := procs) (h := h) ok (fun h v vs K => waits_fn h b v vs qs procs p K)
  have hsm := ok.small
  have hhl := holdsL_le qs p qs.length
  refine Does_of_W Try.func13 rfl (n := 89) rfl rfl (by simp only [argE, Nat.reduceAdd] <;> rfl) ?_
  (repeat (first | refine W_seq ?_))
  skip
  refine W_region rfl ?_
  refine WL_is (X_assign rfl rfl) rfl rfl rfl ?_
  refine WL_is (X_assign rfl rfl) rfl rfl rfl ?_
  (repeat (first | refine WL_nil ?_ | refine Then_normal ?_ | refine W_seq ?_))
  skip
  refine W_region rfl ?_
  refine WL_is (X_move rfl rfl) rfl rfl rfl ?_
  refine WL_is (X_move rfl rfl) rfl rfl rfl ?_
  refine WL_callR [_] _ rfl rfl rfl Try.func22 rfl rfl rfl rfl (.refl _) (hmay h) ?_
  rintro r _ h1 hl1 ⟨_, rfl, rfl, rfl⟩
  simp only [List.cons_append, List.nil_append]
  by_cases hm : mayE procs p = 0
  · rw [hm]
    refine WL_updE (UpdE.tabL 0 rfl) ?_
    rintro _ h1 - ⟨rfl, v, vs, hvl, rfl⟩
    refine WL_updE (UpdE.shapeL 1 rfl) ?_
    rintro _ h1 - ⟨rfl, rfl, a, cap, rfl⟩
    simp only [List.eraseIdx_cons_zero]
    by_cases hid : 0 ≤ id ∧ id < qs.length
    · refine WL_is (X_assign rfl rfl) rfl rfl rfl ?_
      (repeat (first | refine WL_nil ?_ | refine Then_normal ?_ | refine W_seq ?_))
      skip
      refine W_region rfl ?_
      refine WL_is (X_move rfl rfl) rfl rfl rfl ?_
      refine WL_is (X_neq_f rfl rfl rfl (by omega)) rfl rfl rfl ?_
      (repeat (first | refine WL_nil ?_ | refine Then_normal ?_ | refine W_seq ?_ | refine W_skip ?_ | refine W_false rfl ?_))
      skip
      refine W_region rfl ?_
      refine WL_is (X_move rfl rfl) rfl rfl rfl ?_
      refine WL_is (X_lss_f rfl rfl rfl (by omega)) rfl rfl rfl ?_
      refine WL_is (X_move rfl rfl) rfl rfl rfl ?_
      refine WL_is (X_move rfl rfl) rfl rfl rfl ?_
      refine WL_is (X_move rfl rfl) rfl rfl rfl ?_
      refine WL_is (X_nilCheck rfl rfl) rfl rfl rfl ?_
      refine WL_is (X_fieldAddr rfl rfl rfl (by simp only [Nat.zero_add] <;> rfl)) rfl rfl rfl ?_
      refine WL_is (X_load1 rfl rfl (by exact idx0) rfl rfl) rfl rfl rfl ?_
      refine WL_is (X_len rfl rfl rfl) rfl rfl rfl ?_
      refine WL_is (X_geq_f rfl rfl rfl (by omega)) rfl rfl rfl ?_
      refine WL_is (X_pick_f rfl rfl rfl) rfl rfl rfl ?_
      (repeat (first | refine WL_nil ?_ | refine Then_normal ?_ | refine W_seq ?_ | refine W_skip ?_ | refine W_false rfl ?_))
      skip
      refine W_region rfl ?_
      refine WL_is (X_move rfl rfl) rfl rfl rfl ?_
      refine WL_is (X_move rfl rfl) rfl rfl rfl ?_
      refine WL_upd (Upd.tabL (by omega)) ?_
      refine WL_callR [_] _ rfl rfl rfl Try.func18 rfl rfl rfl rfl (.refl _) (hholds h1) ?_
      rintro r _ h2 hl2 ⟨_, rfl, rfl⟩
      simp only [List.cons_append, List.nil_append]
      refine WL_updE (UpdE.row (enc := encI) 1 rfl (lenI _)) ?_
      rintro _ h2 hl2' ⟨rfl, hheld⟩
      simp only [List.eraseIdx_cons_succ, List.eraseIdx_cons_zero]
      obtain ⟨ha, hc, rfl⟩ := hheld.shape
      refine WL_is (X_assign rfl rfl) rfl rfl rfl ?_
      (repeat (first | refine WL_nil ?_ | refine Then_normal ?_ | refine W_seq ?_))
      skip
      refine W_region rfl ?_
      refine WL_is (X_move rfl rfl) rfl rfl rfl ?_
      refine WL_is (X_move rfl rfl) rfl rfl rfl ?_
      refine WL_callR [_] _ rfl rfl rfl Try.func17 rfl rfl rfl rfl (.refl _) (hwaits h2) ?_
      rintro r _ h3 hl3 ⟨_, rfl, rfl, rfl⟩
      simp only [List.cons_append, List.nil_append]
      replace hheld := hheld.mono hl3
      have hcon := contains_fn h3 _ _ id hheld (by omega)
      by_cases hcn : id ∈ holdsL qs p qs.length
      · rw [decide_eq_true hcn] at hcon
        have hV : wantV qs procs p id = tup true 0 := by unfold wantV; rw [if_neg (not_not_intro hm), if_neg (not_not_intro hid), if_pos hcn]
        have hQ : wantQ qs procs p id = qs := by unfold wantQ; exact if_neg fun hg => hg.2.2.1 hcn
        rw [hV, hQ]
        by_cases hw : waitsN qs p < qs.length
        · rw [show waitsV qs p = _ from if_pos hw]
          refine WL_is (X_move rfl rfl) rfl rfl rfl ?_
          refine WL_is (X_extract rfl rfl rfl) rfl rfl rfl ?_
          refine WL_is (X_extract rfl rfl rfl) rfl rfl rfl ?_
          refine WL_is (X_assign rfl rfl) rfl rfl rfl ?_
          refine WL_is (X_assign rfl rfl) rfl rfl rfl ?_
          (repeat (first | refine WL_nil ?_ | refine Then_normal ?_ | refine W_seq ?_ | refine W_block ?_))
          skip
          refine W_region rfl ?_
          refine WL_is (X_move rfl rfl) rfl rfl rfl ?_
          refine WL_is (X_move rfl rfl) rfl rfl rfl ?_
          refine WL_is (X_callv rfl rfl rfl Try.func26 rfl (by assumption)) rfl rfl rfl ?_
          refine WL_is (X_assign rfl rfl) rfl rfl rfl ?_
          (repeat (first | refine WL_nil ?_ | refine Then_normal ?_ | refine W_seq ?_ | refine W_true rfl ?_))
          skip
          refine W_region rfl ?_
          refine WL_is (X_assign rfl rfl) rfl rfl rfl ?_
          refine WL_is (X_assign rfl rfl) rfl rfl rfl ?_
          (repeat (first | refine WL_nil ?_ | refine Then_normal ?_ | refine W_ret ?_ | refine Then_ret ?_ | refine inBlk_ret ?_))
          exact Body_end rfl rfl rfl (SubR.refl _) ⟨rfl, rfl⟩
        · rw [show waitsV qs p = _ from if_neg hw]
          refine WL_is (X_move rfl rfl) rfl rfl rfl ?_
          refine WL_is (X_extract rfl rfl rfl) rfl rfl rfl ?_
          refine WL_is (X_extract rfl rfl rfl) rfl rfl rfl ?_
          refine WL_is (X_assign rfl rfl) rfl rfl rfl ?_
          refine WL_is (X_assign rfl rfl) rfl rfl rfl ?_
          (repeat (first | refine WL_nil ?_ | refine Then_normal ?_ | refine W_seq ?_ | refine W_block ?_))
          skip
          refine W_region rfl ?_
          refine WL_is (X_move rfl rfl) rfl rfl rfl ?_
          refine WL_is (X_move rfl rfl) rfl rfl rfl ?_
          refine WL_is (X_callv rfl rfl rfl Try.func26 rfl (by assumption)) rfl rfl rfl ?_
          refine WL_is (X_assign rfl rfl) rfl rfl rfl ?_
          (repeat (first | refine WL_nil ?_ | refine Then_normal ?_ | refine W_seq ?_ | refine W_true rfl ?_))
          skip
          refine W_region rfl ?_
          refine WL_is (X_assign rfl rfl) rfl rfl rfl ?_
          refine WL_is (X_assign rfl rfl) rfl rfl rfl ?_
          (repeat (first | refine WL_nil ?_ | refine Then_normal ?_ | refine W_ret ?_ | refine Then_ret ?_ | refine inBlk_ret ?_))
          exact Body_end rfl rfl rfl (SubR.refl _) ⟨rfl, rfl⟩
      · rw [decide_eq_false hcn] at hcon
        by_cases hw : waitsN qs p < qs.length
        · rw [show waitsV qs p = _ from if_pos hw]
          by_cases hwi : (waitsN qs p : Int) = id
          · skip
            by_cases hL : 0 < (holdsL qs p qs.length).length
            · by_cases hgt : id < (holdsL qs p qs.length)[(holdsL qs p qs.length).length - 1]
              · have hlg : lastGt (holdsL qs p qs.length) id = true := by unfold lastGt; rw [dif_pos hL]; exact decide_eq_true hgt
                have hV : wantV qs procs p id = tup false 6 := by unfold wantV; rw [if_neg (not_not_intro hm), if_neg (not_not_intro hid), if_neg hcn, if_pos (Or.inr hlg)]
                have hQ : wantQ qs procs p id = qs := by unfold wantQ; exact if_neg fun hg => by have := hg.2.2.2.1; rw [hlg] at this; cases this
                rw [hV, hQ]
                refine WL_is (X_move rfl rfl) rfl rfl rfl ?_
                refine WL_is (X_extract rfl rfl rfl) rfl rfl rfl ?_
                refine WL_is (X_extract rfl rfl rfl) rfl rfl rfl ?_
                refine WL_is (X_assign rfl rfl) rfl rfl rfl ?_
                refine WL_is (X_assign rfl rfl) rfl rfl rfl ?_
                (repeat (first | refine WL_nil ?_ | refine Then_normal ?_ | refine W_seq ?_ | refine W_block ?_))
                skip
                refine W_region rfl ?_
                refine WL_is (X_move rfl rfl) rfl rfl rfl ?_
                refine WL_is (X_move rfl rfl) rfl rfl rfl ?_
                refine WL_is (X_callv rfl rfl rfl Try.func26 rfl (by assumption)) rfl rfl rfl ?_
                refine WL_is (X_assign rfl rfl) rfl rfl rfl ?_
                (repeat (first | refine WL_nil ?_ | refine Then_normal ?_ | refine W_seq ?_ | refine W_false rfl ?_))
                skip
                refine W_region rfl ?_
                refine WL_is (X_move rfl rfl) rfl rfl rfl ?_
                refine WL_is (X_move rfl rfl) rfl rfl rfl ?_
                refine WL_is (X_move rfl rfl) rfl rfl rfl ?_
                refine WL_is (X_move rfl rfl) rfl rfl rfl ?_
                refine WL_is (X_neq_f rfl rfl rfl (by omega)) rfl rfl rfl ?_
                refine WL_is (X_pick_t rfl rfl rfl) rfl rfl rfl ?_
                refine WL_is (X_assign rfl rfl) rfl rfl rfl ?_
                (repeat (first | refine WL_nil ?_ | refine Then_normal ?_ | refine W_false rfl ?_))
                skip
                refine W_region rfl ?_
                refine WL_is (X_move rfl rfl) rfl rfl rfl ?_
                refine WL_is (X_len_sl rfl rfl rfl (by assumption)) rfl rfl rfl ?_
                refine WL_is (X_gtr_t rfl rfl rfl (by omega)) rfl rfl rfl ?_
                refine WL_is (X_move rfl rfl) rfl rfl rfl ?_
                refine WL_is (X_move rfl rfl) rfl rfl rfl ?_
                refine WL_is (X_move rfl rfl) rfl rfl rfl ?_
                refine WL_is (X_len_sl rfl rfl rfl (by assumption)) rfl rfl rfl ?_
                refine WL_is (X_subW (c := (((holdsL qs p qs.length).length - 1 : Nat) : Int)) rfl rfl rfl (by rw [wrap_i64_in] <;> omega)) rfl rfl rfl ?_
                (refine WL_index_slN rfl rfl rfl rfl rfl (by assumption) (by omega) rfl rfl rfl ?_; intro p_ hp_)
                refine WL_is (X_load1_at rfl rfl (by assumption) rfl rfl) rfl rfl rfl ?_
                refine WL_is (X_move rfl rfl) rfl rfl rfl ?_
                refine WL_is (X_gtr_t rfl rfl rfl (by omega)) rfl rfl rfl ?_
                refine WL_is (X_pick_t rfl rfl rfl) rfl rfl rfl ?_
                refine WL_is (X_assign rfl rfl) rfl rfl rfl ?_
                (repeat (first | refine WL_nil ?_ | refine Then_normal ?_ | refine W_seq ?_ | refine W_true rfl ?_))
                skip
                refine W_region rfl ?_
                refine WL_is (X_assign rfl rfl) rfl rfl rfl ?_
                refine WL_is (X_assign rfl rfl) rfl rfl rfl ?_
                (repeat (first | refine WL_nil ?_ | refine Then_normal ?_ | refine W_ret ?_ | refine Then_ret ?_ | refine inBlk_ret ?_))
                exact Body_end rfl rfl rfl (SubR.refl _) ⟨rfl, rfl⟩
              · have hlg : lastGt (holdsL qs p qs.length) id = false := by unfold lastGt; rw [dif_pos hL]; exact decide_eq_false hgt
                have hV : wantV qs procs p id = tup false 0 := by unfold wantV; rw [if_neg (not_not_intro hm), if_neg (not_not_intro hid), if_neg hcn, if_neg (not_or.2 ⟨fun hh => hh.2 hwi, by rw [hlg]; simp⟩), if_pos hw]
                have hQ : wantQ qs procs p id = qs := by unfold wantQ; exact if_neg fun hg => hg.2.2.2.2 hw
                rw [hV, hQ]
                refine WL_is (X_move rfl rfl) rfl rfl rfl ?_
                refine WL_is (X_extract rfl rfl rfl) rfl rfl rfl ?_
                refine WL_is (X_extract rfl rfl rfl) rfl rfl rfl ?_
                refine WL_is (X_assign rfl rfl) rfl rfl rfl ?_
                refine WL_is (X_assign rfl rfl) rfl rfl rfl ?_
                (repeat (first | refine WL_nil ?_ | refine Then_normal ?_ | refine W_seq ?_ | refine W_block ?_))
                skip
                refine W_region rfl ?_
                refine WL_is (X_move rfl rfl) rfl rfl rfl ?_
                refine WL_is (X_move rfl rfl) rfl rfl rfl ?_
                refine WL_is (X_callv rfl rfl rfl Try.func26 rfl (by assumption)) rfl rfl rfl ?_
                refine WL_is (X_assign rfl rfl) rfl rfl rfl ?_
                (repeat (first | refine WL_nil ?_ | refine Then_normal ?_ | refine W_seq ?_ | refine W_false rfl ?_))
                skip
                refine W_region rfl ?_
                refine WL_is (X_move rfl rfl) rfl rfl rfl ?_
                refine WL_is (X_move rfl rfl) rfl rfl rfl ?_
                refine WL_is (X_move rfl rfl) rfl rfl rfl ?_
                refine WL_is (X_move rfl rfl) rfl rfl rfl ?_
                refine WL_is (X_neq_f rfl rfl rfl (by omega)) rfl rfl rfl ?_
                refine WL_is (X_pick_t rfl rfl rfl) rfl rfl rfl ?_
                refine WL_is (X_assign rfl rfl) rfl rfl rfl ?_
                (repeat (first | refine WL_nil ?_ | refine Then_normal ?_ | refine W_false rfl ?_))
                skip
                refine W_region rfl ?_
                refine WL_is (X_move rfl rfl) rfl rfl rfl ?_
                refine WL_is (X_len_sl rfl rfl rfl (by assumption)) rfl rfl rfl ?_
                refine WL_is (X_gtr_t rfl rfl rfl (by omega)) rfl rfl rfl ?_
                refine WL_is (X_move rfl rfl) rfl rfl rfl ?_
                refine WL_is (X_move rfl rfl) rfl rfl rfl ?_
                refine WL_is (X_move rfl rfl) rfl rfl rfl ?_
                refine WL_is (X_len_sl rfl rfl rfl (by assumption)) rfl rfl rfl ?_
                refine WL_is (X_subW (c := (((holdsL qs p qs.length).length - 1 : Nat) : Int)) rfl rfl rfl (by rw [wrap_i64_in] <;> omega)) rfl rfl rfl ?_
                (refine WL_index_slN rfl rfl rfl rfl rfl (by assumption) (by omega) rfl rfl rfl ?_; intro p_ hp_)
                refine WL_is (X_load1_at rfl rfl (by assumption) rfl rfl) rfl rfl rfl ?_
                refine WL_is (X_move rfl rfl) rfl rfl rfl ?_
                refine WL_is (X_gtr_f rfl rfl rfl (by omega)) rfl rfl rfl ?_
                refine WL_is (X_pick_t rfl rfl rfl) rfl rfl rfl ?_
                refine WL_is (X_assign rfl rfl) rfl rfl rfl ?_
                (repeat (first | refine WL_nil ?_ | refine Then_normal ?_ | refine W_seq ?_ | refine W_false rfl ?_))
                skip
                refine W_region rfl ?_
                refine WL_is (X_move rfl rfl) rfl rfl rfl ?_
                refine WL_is (X_assign rfl rfl) rfl rfl rfl ?_
                (repeat (first | refine WL_nil ?_ | refine Then_normal ?_ | refine W_seq ?_ | refine W_true rfl ?_))
                skip
                refine W_region rfl ?_
                refine WL_is (X_assign rfl rfl) rfl rfl rfl ?_
                refine WL_is (X_assign rfl rfl) rfl rfl rfl ?_
                (repeat (first | refine WL_nil ?_ | refine Then_normal ?_ | refine W_ret ?_ | refine Then_ret ?_ | refine inBlk_ret ?_))
                exact Body_end rfl rfl rfl (SubR.refl _) ⟨rfl, rfl⟩
            · have hlg : lastGt (holdsL qs p qs.length) id = false := by unfold lastGt; rw [dif_neg hL]
              have hV : wantV qs procs p id = tup false 0 := by unfold wantV; rw [if_neg (not_not_intro hm), if_neg (not_not_intro hid), if_neg hcn, if_neg (not_or.2 ⟨fun hh => hh.2 hwi, by rw [hlg]; simp⟩), if_pos hw]
              have hQ : wantQ qs procs p id = qs := by unfold wantQ; exact if_neg fun hg => hg.2.2.2.2 hw
              rw [hV, hQ]
              refine WL_is (X_move rfl rfl) rfl rfl rfl ?_
              refine WL_is (X_extract rfl rfl rfl) rfl rfl rfl ?_
              refine WL_is (X_extract rfl rfl rfl) rfl rfl rfl ?_
              refine WL_is (X_assign rfl rfl) rfl rfl rfl ?_
              refine WL_is (X_assign rfl rfl) rfl rfl rfl ?_
              (repeat (first | refine WL_nil ?_ | refine Then_normal ?_ | refine W_seq ?_ | refine W_block ?_))
              skip
              refine W_region rfl ?_
              refine WL_is (X_move rfl rfl) rfl rfl rfl ?_
              refine WL_is (X_move rfl rfl) rfl rfl rfl ?_
              refine WL_is (X_callv rfl rfl rfl Try.func26 rfl (by assumption)) rfl rfl rfl ?_
              refine WL_is (X_assign rfl rfl) rfl rfl rfl ?_
              (repeat (first | refine WL_nil ?_ | refine Then_normal ?_ | refine W_seq ?_ | refine W_false rfl ?_))
              skip
              refine W_region rfl ?_
              refine WL_is (X_move rfl rfl) rfl rfl rfl ?_
              refine WL_is (X_move rfl rfl) rfl rfl rfl ?_
              refine WL_is (X_move rfl rfl) rfl rfl rfl ?_
              refine WL_is (X_move rfl rfl) rfl rfl rfl ?_
              refine WL_is (X_neq_f rfl rfl rfl (by omega)) rfl rfl rfl ?_
              refine WL_is (X_pick_t rfl rfl rfl) rfl rfl rfl ?_
              refine WL_is (X_assign rfl rfl) rfl rfl rfl ?_
              (repeat (first | refine WL_nil ?_ | refine Then_normal ?_ | refine W_false rfl ?_))
              skip
              refine W_region rfl ?_
              refine WL_is (X_move rfl rfl) rfl rfl rfl ?_
              refine WL_is (X_len_sl rfl rfl rfl (by assumption)) rfl rfl rfl ?_
              refine WL_is (X_gtr_f rfl rfl rfl (by omega)) rfl rfl rfl ?_
              refine WL_is (X_move rfl rfl) rfl rfl rfl ?_
              refine WL_off rfl rfl rfl ?_
              refine WL_off rfl rfl rfl ?_
              refine WL_off rfl rfl rfl ?_
              refine WL_off rfl rfl rfl ?_
              refine WL_off rfl rfl rfl ?_
              refine WL_off rfl rfl rfl ?_
              refine WL_off rfl rfl rfl ?_
              refine WL_off rfl rfl rfl ?_
              refine WL_is (X_pick_f rfl rfl rfl) rfl rfl rfl ?_
              refine WL_is (X_assign rfl rfl) rfl rfl rfl ?_
              (repeat (first | refine WL_nil ?_ | refine Then_normal ?_ | refine W_seq ?_ | refine W_false rfl ?_))
              skip
              refine W_region rfl ?_
              refine WL_is (X_move rfl rfl) rfl rfl rfl ?_
              refine WL_is (X_assign rfl rfl) rfl rfl rfl ?_
              (repeat (first | refine WL_nil ?_ | refine Then_normal ?_ | refine W_seq ?_ | refine W_true rfl ?_))
              skip
              refine W_region rfl ?_
              refine WL_is (X_assign rfl rfl) rfl rfl rfl ?_
              refine WL_is (X_assign rfl rfl) rfl rfl rfl ?_
              (repeat (first | refine WL_nil ?_ | refine Then_normal ?_ | refine W_ret ?_ | refine Then_ret ?_ | refine inBlk_ret ?_))
              exact Body_end rfl rfl rfl (SubR.refl _) ⟨rfl, rfl⟩
          · skip
            have hV : wantV qs procs p id = tup false 6 := by unfold wantV; rw [if_neg (not_not_intro hm), if_neg (not_not_intro hid), if_neg hcn, if_pos (Or.inl ⟨hw, hwi⟩)]
            have hQ : wantQ qs procs p id = qs := by unfold wantQ; exact if_neg fun hg => hg.2.2.2.2 hw
            rw [hV, hQ]
            refine WL_is (X_move rfl rfl) rfl rfl rfl ?_
            refine WL_is (X_extract rfl rfl rfl) rfl rfl rfl ?_
            refine WL_is (X_extract rfl rfl rfl) rfl rfl rfl ?_
            refine WL_is (X_assign rfl rfl) rfl rfl rfl ?_
            refine WL_is (X_assign rfl rfl) rfl rfl rfl ?_
            (repeat (first | refine WL_nil ?_ | refine Then_normal ?_ | refine W_seq ?_ | refine W_block ?_))
            skip
            refine W_region rfl ?_
            refine WL_is (X_move rfl rfl) rfl rfl rfl ?_
            refine WL_is (X_move rfl rfl) rfl rfl rfl ?_
            refine WL_is (X_callv rfl rfl rfl Try.func26 rfl (by assumption)) rfl rfl rfl ?_
            refine WL_is (X_assign rfl rfl) rfl rfl rfl ?_
            (repeat (first | refine WL_nil ?_ | refine Then_normal ?_ | refine W_seq ?_ | refine W_false rfl ?_))
            skip
            refine W_region rfl ?_
            refine WL_is (X_move rfl rfl) rfl rfl rfl ?_
            refine WL_is (X_move rfl rfl) rfl rfl rfl ?_
            refine WL_is (X_move rfl rfl) rfl rfl rfl ?_
            refine WL_is (X_move rfl rfl) rfl rfl rfl ?_
            refine WL_is (X_neq_t rfl rfl rfl (by omega)) rfl rfl rfl ?_
            refine WL_is (X_pick_t rfl rfl rfl) rfl rfl rfl ?_
            refine WL_is (X_assign rfl rfl) rfl rfl rfl ?_
            (repeat (first | refine WL_nil ?_ | refine Then_normal ?_ | refine W_seq ?_ | refine W_skip ?_ | refine W_true rfl ?_))
            skip
            refine W_region rfl ?_
            refine WL_is (X_assign rfl rfl) rfl rfl rfl ?_
            refine WL_is (X_assign rfl rfl) rfl rfl rfl ?_
            (repeat (first | refine WL_nil ?_ | refine Then_normal ?_ | refine W_ret ?_ | refine Then_ret ?_ | refine inBlk_ret ?_))
            exact Body_end rfl rfl rfl (SubR.refl _) ⟨rfl, rfl⟩
        · rw [show waitsV qs p = _ from if_neg hw]
          by_cases hL : 0 < (holdsL qs p qs.length).length
          · by_cases hgt : id < (holdsL qs p qs.length)[(holdsL qs p qs.length).length - 1]
            · have hlg : lastGt (holdsL qs p qs.length) id = true := by unfold lastGt; rw [dif_pos hL]; exact decide_eq_true hgt
              have hV : wantV qs procs p id = tup false 6 := by unfold wantV; rw [if_neg (not_not_intro hm), if_neg (not_not_intro hid), if_neg hcn, if_pos (Or.inr hlg)]
              have hQ : wantQ qs procs p id = qs := by unfold wantQ; exact if_neg fun hg => by have := hg.2.2.2.1; rw [hlg] at this; cases this
              rw [hV, hQ]
              refine WL_is (X_move rfl rfl) rfl rfl rfl ?_
              refine WL_is (X_extract rfl rfl rfl) rfl rfl rfl ?_
              refine WL_is (X_extract rfl rfl rfl) rfl rfl rfl ?_
              refine WL_is (X_assign rfl rfl) rfl rfl rfl ?_
              refine WL_is (X_assign rfl rfl) rfl rfl rfl ?_
              (repeat (first | refine WL_nil ?_ | refine Then_normal ?_ | refine W_seq ?_ | refine W_block ?_))
              skip
              refine W_region rfl ?_
              refine WL_is (X_move rfl rfl) rfl rfl rfl ?_
              refine WL_is (X_move rfl rfl) rfl rfl rfl ?_
              refine WL_is (X_callv rfl rfl rfl Try.func26 rfl (by assumption)) rfl rfl rfl ?_
              refine WL_is (X_assign rfl rfl) rfl rfl rfl ?_
              (repeat (first | refine WL_nil ?_ | refine Then_normal ?_ | refine W_seq ?_ | refine W_false rfl ?_))
              skip
              refine W_region rfl ?_
              refine WL_is (X_move rfl rfl) rfl rfl rfl ?_
              refine WL_is (X_move rfl rfl) rfl rfl rfl ?_
              refine WL_off rfl rfl rfl ?_
              refine WL_off rfl rfl rfl ?_
              refine WL_off rfl rfl rfl ?_
              refine WL_is (X_pick_f rfl rfl rfl) rfl rfl rfl ?_
              refine WL_is (X_assign rfl rfl) rfl rfl rfl ?_
              (repeat (first | refine WL_nil ?_ | refine Then_normal ?_ | refine W_false rfl ?_))
              skip
              refine W_region rfl ?_
              refine WL_is (X_move rfl rfl) rfl rfl rfl ?_
              refine WL_is (X_len_sl rfl rfl rfl (by assumption)) rfl rfl rfl ?_
              refine WL_is (X_gtr_t rfl rfl rfl (by omega)) rfl rfl rfl ?_
              refine WL_is (X_move rfl rfl) rfl rfl rfl ?_
              refine WL_is (X_move rfl rfl) rfl rfl rfl ?_
              refine WL_is (X_move rfl rfl) rfl rfl rfl ?_
              refine WL_is (X_len_sl rfl rfl rfl (by assumption)) rfl rfl rfl ?_
              refine WL_is (X_subW (c := (((holdsL qs p qs.length).length - 1 : Nat) : Int)) rfl rfl rfl (by rw [wrap_i64_in] <;> omega)) rfl rfl rfl ?_
              (refine WL_index_slN rfl rfl rfl rfl rfl (by assumption) (by omega) rfl rfl rfl ?_; intro p_ hp_)
              refine WL_is (X_load1_at rfl rfl (by assumption) rfl rfl) rfl rfl rfl ?_
              refine WL_is (X_move rfl rfl) rfl rfl rfl ?_
              refine WL_is (X_gtr_t rfl rfl rfl (by omega)) rfl rfl rfl ?_
              refine WL_is (X_pick_t rfl rfl rfl) rfl rfl rfl ?_
              refine WL_is (X_assign rfl rfl) rfl rfl rfl ?_
              (repeat (first | refine WL_nil ?_ | refine Then_normal ?_ | refine W_seq ?_ | refine W_true rfl ?_))
              skip
              refine W_region rfl ?_
              refine WL_is (X_assign rfl rfl) rfl rfl rfl ?_
              refine WL_is (X_assign rfl rfl) rfl rfl rfl ?_
              (repeat (first | refine WL_nil ?_ | refine Then_normal ?_ | refine W_ret ?_ | refine Then_ret ?_ | refine inBlk_ret ?_))
              exact Body_end rfl rfl rfl (SubR.refl _) ⟨rfl, rfl⟩
            · have hlg : lastGt (holdsL qs p qs.length) id = false := by unfold lastGt; rw [dif_pos hL]; exact decide_eq_false hgt
              have hV : wantV qs procs p id = tup (decide ((queueAt qs id).length = 0)) 0 := by unfold wantV; rw [if_neg (not_not_intro hm), if_neg (not_not_intro hid), if_neg hcn, if_neg (not_or.2 ⟨fun hh => hw hh.1, by rw [hlg]; simp⟩), if_neg hw]
              have hQ : wantQ qs procs p id = qs.set id.toNat (queueAt qs id ++ [p]) := by unfold wantQ; exact if_pos ⟨hm, hid, hcn, hlg, hw⟩
              rw [hV, hQ]
              refine WL_is (X_move rfl rfl) rfl rfl rfl ?_
              refine WL_is (X_extract rfl rfl rfl) rfl rfl rfl ?_
              refine WL_is (X_extract rfl rfl rfl) rfl rfl rfl ?_
              refine WL_is (X_assign rfl rfl) rfl rfl rfl ?_
              refine WL_is (X_assign rfl rfl) rfl rfl rfl ?_
              (repeat (first | refine WL_nil ?_ | refine Then_normal ?_ | refine W_seq ?_ | refine W_block ?_))
              skip
              refine W_region rfl ?_
              refine WL_is (X_move rfl rfl) rfl rfl rfl ?_
              refine WL_is (X_move rfl rfl) rfl rfl rfl ?_
              refine WL_is (X_callv rfl rfl rfl Try.func26 rfl (by assumption)) rfl rfl rfl ?_
              refine WL_is (X_assign rfl rfl) rfl rfl rfl ?_
              (repeat (first | refine WL_nil ?_ | refine Then_normal ?_ | refine W_seq ?_ | refine W_false rfl ?_))
              skip
              refine W_region rfl ?_
              refine WL_is (X_move rfl rfl) rfl rfl rfl ?_
              refine WL_is (X_move rfl rfl) rfl rfl rfl ?_
              refine WL_off rfl rfl rfl ?_
              refine WL_off rfl rfl rfl ?_
              refine WL_off rfl rfl rfl ?_
              refine WL_is (X_pick_f rfl rfl rfl) rfl rfl rfl ?_
              refine WL_is (X_assign rfl rfl) rfl rfl rfl ?_
              (repeat (first | refine WL_nil ?_ | refine Then_normal ?_ | refine W_false rfl ?_))
              skip
              refine W_region rfl ?_
              refine WL_is (X_move rfl rfl) rfl rfl rfl ?_
              refine WL_is (X_len_sl rfl rfl rfl (by assumption)) rfl rfl rfl ?_
              refine WL_is (X_gtr_t rfl rfl rfl (by omega)) rfl rfl rfl ?_
              refine WL_is (X_move rfl rfl) rfl rfl rfl ?_
              refine WL_is (X_move rfl rfl) rfl rfl rfl ?_
              refine WL_is (X_move rfl rfl) rfl rfl rfl ?_
              refine WL_is (X_len_sl rfl rfl rfl (by assumption)) rfl rfl rfl ?_
              refine WL_is (X_subW (c := (((holdsL qs p qs.length).length - 1 : Nat) : Int)) rfl rfl rfl (by rw [wrap_i64_in] <;> omega)) rfl rfl rfl ?_
              (refine WL_index_slN rfl rfl rfl rfl rfl (by assumption) (by omega) rfl rfl rfl ?_; intro p_ hp_)
              refine WL_is (X_load1_at rfl rfl (by assumption) rfl rfl) rfl rfl rfl ?_
              refine WL_is (X_move rfl rfl) rfl rfl rfl ?_
              refine WL_is (X_gtr_f rfl rfl rfl (by omega)) rfl rfl rfl ?_
              refine WL_is (X_pick_t rfl rfl rfl) rfl rfl rfl ?_
              refine WL_is (X_assign rfl rfl) rfl rfl rfl ?_
              (repeat (first | refine WL_nil ?_ | refine Then_normal ?_ | refine W_seq ?_ | refine W_false rfl ?_))
              skip
              refine W_region rfl ?_
              refine WL_is (X_move rfl rfl) rfl rfl rfl ?_
              refine WL_is (X_assign rfl rfl) rfl rfl rfl ?_
              (repeat (first | refine WL_nil ?_ | refine Then_normal ?_ | refine W_seq ?_ | refine W_skip ?_ | refine inBlk_normal ?_ | refine W_false rfl ?_))
              obtain ⟨k, rfl⟩ : ∃ k : Nat, id = (k : Int) := ⟨id.toNat, by omega⟩
              have hk : k < qs.length := by omega
              have hqs := ok.short _ (List.getElem_mem hk)
              rw [queueAt_nat hk]
              simp only [Int.toNat_natCast]
              refine W_updE (UpdE.tabL 0 rfl) ?_
              rintro _ h4 - ⟨rfl, v, vs, hvl, rfl⟩
              refine W_updE (UpdE.shapeL 1 rfl) ?_
              rintro _ h4 - ⟨rfl, rfl, a, cap, rfl⟩
              refine W_updE (UpdE.shapePos 1 rfl (by omega)) ?_
              rintro _ h4 - ⟨rfl, rfl, rb, rfl⟩
              have hkv : k < vs.length := by omega
              refine W_upd (Upd.takeZ 2 k rfl hkv hk) ?_
              simp only [List.eraseIdx_cons_succ, List.eraseIdx_cons_zero]
              skip
              refine W_draw 15 _ [] [zipH vs qs k, blk b [.slice (some ⟨rb, 0, none⟩) vs.length cap, .int .i64 procs] 49, rowL encV (.slice (some ⟨rb, 0, none⟩) vs.length cap) 40 1 vs] rfl rfl rfl (SubE.refl _) rfl ?_
              refine RG_val rfl rfl (fun _ => rfl) (fun _ => X_move rfl rfl) ?_
              refine RG_val rfl rfl (fun _ => rfl) (fun _ => X_nilCheck rfl rfl) ?_
              refine RG_val rfl rfl (fun _ => rfl) (fun _ => X_fieldAddr rfl rfl rfl (by simp only [Nat.zero_add] <;> rfl)) ?_
              refine RG_val rfl rfl (fun _ => rfl) (fun _ => X_load1 rfl rfl (by exact idx1) rfl rfl) ?_
              refine RG_val rfl rfl (fun _ => rfl) (fun _ => X_move rfl rfl) ?_
              refine RG_val rfl rfl (fun _ => rfl) (fun _ => X_move rfl rfl) ?_
              refine RG_val rfl rfl (fun _ => rfl) (fun _ => X_nilCheck rfl rfl) ?_
              refine RG_val rfl rfl (fun _ => rfl) (fun _ => X_fieldAddr rfl rfl rfl (by simp only [Nat.zero_add] <;> rfl)) ?_
              refine RG_val rfl rfl (fun _ => rfl) (fun _ => X_load1 rfl rfl (by exact idx1) rfl rfl) ?_
              refine RG_val rfl rfl (fun _ => rfl) (fun _ => X_move rfl rfl) ?_
              refine RG_val rfl rfl (fun _ => rfl) (fun _ => X_index_row rfl rfl (by exact idx2) rfl rfl rfl (by omega)) ?_
              refine RG_val rfl rfl (fun _ => rfl) (fun _ => X_load_spot rfl rfl (by exact idx2) (by rfl) rfl (by omega) rfl) ?_
              refine RG_val rfl rfl (fun _ => rfl) (fun _ => X_move rfl rfl) ?_
              refine RG_buildSl (enc := encI) [p] (lenI _) rfl (fun _ => rfl) rfl rfl rfl rfl rfl rfl rfl rfl rfl rfl rfl rfl (fun _ => rfl) ?_
              refine RG_append (enc := encI) (L := qs[k]) (L' := [p]) rfl (fun _ => rfl) (fun _ => rfl) elemI rfl (fun vs h' hl hf => hf.1) (flatI _) (by simp only [List.length_cons, List.length_nil]; omega) (by simp only [List.length_cons, List.length_nil]; omega) rfl rfl (fun _ => rfl) ?_
              refine RG_nil ?_
              refine RG_endC (.refl _) (fun vs => by simp only [endE, List.cons_append, List.nil_append] <;> rfl) (fun vs => by simp only [endR, List.cons_append, List.nil_append, List.append_nil] <;> rfl) (fun vs h' hf => hf) ?_
              rintro ws h5 hl5 -
              simp only [Nat.zero_add, Nat.reduceAdd]
              generalize ws 14 = r
              refine WL_updE (UpdE.shapeL 0 rfl) ?_
              rintro _ h5 - ⟨rfl, rfl, a3, cap3, rfl⟩
              refine WL_upd (Upd.putZ hkv hk) ?_
              refine WL_is (X_index_row rfl rfl (by exact idx2) rfl rfl rfl (by omega)) rfl rfl rfl ?_
              refine WL_store_spot rfl rfl rfl (by exact idx2) (by rfl) rfl rfl rfl rfl rfl (by omega) rfl rfl rfl rfl ?_
              (repeat (first | refine WL_nil ?_ | refine Then_normal ?_ | refine W_seq ?_))
              skip
              refine W_region rfl ?_
              refine WL_is (X_move rfl rfl) rfl rfl rfl ?_
              refine WL_is (X_nilCheck rfl rfl) rfl rfl rfl ?_
              refine WL_is (X_fieldAddr rfl rfl rfl (by simp only [Nat.zero_add] <;> rfl)) rfl rfl rfl ?_
              refine WL_is (X_load1 rfl rfl (by exact idx1) rfl rfl) rfl rfl rfl ?_
              refine WL_is (X_move rfl rfl) rfl rfl rfl ?_
              refine WL_is (X_index_row rfl rfl (by exact idx2) rfl rfl rfl (by omega)) rfl rfl rfl ?_
              refine WL_is (X_load_spot rfl rfl (by exact idx2) (by (simp only [List.length_set]; first | done | omega)) rfl (by (simp only [List.length_set]; omega)) rfl) rfl rfl rfl ?_
              rw [List.getElem_set_self]
              have hap : (qs[k] ++ [p]).length = qs[k].length + 1 := by simp
              by_cases hq0 : qs[k].length = 0
              · rw [decide_eq_true hq0]
                refine WL_is (X_len rfl rfl rfl) rfl rfl rfl ?_
                refine WL_is (X_eql_t rfl rfl rfl (by omega)) rfl rfl rfl ?_
                refine WL_is (X_assign rfl rfl) rfl rfl rfl ?_
                refine WL_is (X_assign rfl rfl) rfl rfl rfl ?_
                (repeat (first | refine WL_nil ?_ | refine Then_normal ?_ | refine W_ret ?_))
                refine Body_vals (.cons (.tmp rfl) (.cons (.tmp rfl) .nil)) rfl ?_
                refine (UpdE.sub (A := fun R' _ => R' = _) (SubR.trans (SubR.of_perm (perm_front 1 rfl)) (SubR.cons _ (SubR.trans (SubR.of_perm (perm_front 1 rfl)) (SubR.refl _)))) rfl).then ?_
                rintro _ h6 - rfl
                exact UpdE.of (Upd.tabL (by simp; omega)) ⟨rfl, rfl⟩
              · rw [decide_eq_false hq0]
                refine WL_is (X_len rfl rfl rfl) rfl rfl rfl ?_
                refine WL_is (X_eql_f rfl rfl rfl (by omega)) rfl rfl rfl ?_
                refine WL_is (X_assign rfl rfl) rfl rfl rfl ?_
                refine WL_is (X_assign rfl rfl) rfl rfl rfl ?_
                (repeat (first | refine WL_nil ?_ | refine Then_normal ?_ | refine W_ret ?_))
                refine Body_vals (.cons (.tmp rfl) (.cons (.tmp rfl) .nil)) rfl ?_
                refine (UpdE.sub (A := fun R' _ => R' = _) (SubR.trans (SubR.of_perm (perm_front 1 rfl)) (SubR.cons _ (SubR.trans (SubR.of_perm (perm_front 1 rfl)) (SubR.refl _)))) rfl).then ?_
                rintro _ h6 - rfl
                exact UpdE.of (Upd.tabL (by simp; omega)) ⟨rfl, rfl⟩
          · have hlg : lastGt (holdsL qs p qs.length) id = false := by unfold lastGt; rw [dif_neg hL]
            have hV : wantV qs procs p id = tup (decide ((queueAt qs id).length = 0)) 0 := by unfold wantV; rw [if_neg (not_not_intro hm), if_neg (not_not_intro hid), if_neg hcn, if_neg (not_or.2 ⟨fun hh => hw hh.1, by rw [hlg]; simp⟩), if_neg hw]
            have hQ : wantQ qs procs p id = qs.set id.toNat (queueAt qs id ++ [p]) := by unfold wantQ; exact if_pos ⟨hm, hid, hcn, hlg, hw⟩
            rw [hV, hQ]
            refine WL_is (X_move rfl rfl) rfl rfl rfl ?_
            refine WL_is (X_extract rfl rfl rfl) rfl rfl rfl ?_
            refine WL_is (X_extract rfl rfl rfl) rfl rfl rfl ?_
            refine WL_is (X_assign rfl rfl) rfl rfl rfl ?_
            refine WL_is (X_assign rfl rfl) rfl rfl rfl ?_
            (repeat (first | refine WL_nil ?_ | refine Then_normal ?_ | refine W_seq ?_ | refine W_block ?_))
            skip
            refine W_region rfl ?_
            refine WL_is (X_move rfl rfl) rfl rfl rfl ?_
            refine WL_is (X_move rfl rfl) rfl rfl rfl ?_
            refine WL_is (X_callv rfl rfl rfl Try.func26 rfl (by assumption)) rfl rfl rfl ?_
            refine WL_is (X_assign rfl rfl) rfl rfl rfl ?_
            (repeat (first | refine WL_nil ?_ | refine Then_normal ?_ | refine W_seq ?_ | refine W_false rfl ?_))
            skip
            refine W_region rfl ?_
            refine WL_is (X_move rfl rfl) rfl rfl rfl ?_
            refine WL_is (X_move rfl rfl) rfl rfl rfl ?_
            refine WL_off rfl rfl rfl ?_
            refine WL_off rfl rfl rfl ?_
            refine WL_off rfl rfl rfl ?_
            refine WL_is (X_pick_f rfl rfl rfl) rfl rfl rfl ?_
            refine WL_is (X_assign rfl rfl) rfl rfl rfl ?_
            (repeat (first | refine WL_nil ?_ | refine Then_normal ?_ | refine W_false rfl ?_))
            skip
            refine W_region rfl ?_
            refine WL_is (X_move rfl rfl) rfl rfl rfl ?_
            refine WL_is (X_len_sl rfl rfl rfl (by assumption)) rfl rfl rfl ?_
            refine WL_is (X_gtr_f rfl rfl rfl (by omega)) rfl rfl rfl ?_
            refine WL_is (X_move rfl rfl) rfl rfl rfl ?_
            refine WL_off rfl rfl rfl ?_
            refine WL_off rfl rfl rfl ?_
            refine WL_off rfl rfl rfl ?_
            refine WL_off rfl rfl rfl ?_
            refine WL_off rfl rfl rfl ?_
            refine WL_off rfl rfl rfl ?_
            refine WL_off rfl rfl rfl ?_
            refine WL_off rfl rfl rfl ?_
            refine WL_is (X_pick_f rfl rfl rfl) rfl rfl rfl ?_
            refine WL_is (X_assign rfl rfl) rfl rfl rfl ?_
            (repeat (first | refine WL_nil ?_ | refine Then_normal ?_ | refine W_seq ?_ | refine W_false rfl ?_))
            skip
            refine W_region rfl ?_
            refine WL_is (X_move rfl rfl) rfl rfl rfl ?_
            refine WL_is (X_assign rfl rfl) rfl rfl rfl ?_
            (repeat (first | refine WL_nil ?_ | refine Then_normal ?_ | refine W_seq ?_ | refine W_skip ?_ | refine inBlk_normal ?_ | refine W_false rfl ?_))
            obtain ⟨k, rfl⟩ : ∃ k : Nat, id = (k : Int) := ⟨id.toNat, by omega⟩
            have hk : k < qs.length := by omega
            have hqs := ok.short _ (List.getElem_mem hk)
            rw [queueAt_nat hk]
            simp only [Int.toNat_natCast]
            refine W_updE (UpdE.tabL 0 rfl) ?_
            rintro _ h4 - ⟨rfl, v, vs, hvl, rfl⟩
            refine W_updE (UpdE.shapeL 1 rfl) ?_
            rintro _ h4 - ⟨rfl, rfl, a, cap, rfl⟩
            refine W_updE (UpdE.shapePos 1 rfl (by omega)) ?_
            rintro _ h4 - ⟨rfl, rfl, rb, rfl⟩
            have hkv : k < vs.length := by omega
            refine W_upd (Upd.takeZ 2 k rfl hkv hk) ?_
            simp only [List.eraseIdx_cons_succ, List.eraseIdx_cons_zero]
            skip
            refine W_draw 15 _ [] [zipH vs qs k, blk b [.slice (some ⟨rb, 0, none⟩) vs.length cap, .int .i64 procs] 49, rowL encV (.slice (some ⟨rb, 0, none⟩) vs.length cap) 40 1 vs] rfl rfl rfl (SubE.refl _) rfl ?_
            refine RG_val rfl rfl (fun _ => rfl) (fun _ => X_move rfl rfl) ?_
            refine RG_val rfl rfl (fun _ => rfl) (fun _ => X_nilCheck rfl rfl) ?_
            refine RG_val rfl rfl (fun _ => rfl) (fun _ => X_fieldAddr rfl rfl rfl (by simp only [Nat.zero_add] <;> rfl)) ?_
            refine RG_val rfl rfl (fun _ => rfl) (fun _ => X_load1 rfl rfl (by exact idx1) rfl rfl) ?_
            refine RG_val rfl rfl (fun _ => rfl) (fun _ => X_move rfl rfl) ?_
            refine RG_val rfl rfl (fun _ => rfl) (fun _ => X_move rfl rfl) ?_
            refine RG_val rfl rfl (fun _ => rfl) (fun _ => X_nilCheck rfl rfl) ?_
            refine RG_val rfl rfl (fun _ => rfl) (fun _ => X_fieldAddr rfl rfl rfl (by simp only [Nat.zero_add] <;> rfl)) ?_
            refine RG_val rfl rfl (fun _ => rfl) (fun _ => X_load1 rfl rfl (by exact idx1) rfl rfl) ?_
            refine RG_val rfl rfl (fun _ => rfl) (fun _ => X_move rfl rfl) ?_
            refine RG_val rfl rfl (fun _ => rfl) (fun _ => X_index_row rfl rfl (by exact idx2) rfl rfl rfl (by omega)) ?_
            refine RG_val rfl rfl (fun _ => rfl) (fun _ => X_load_spot rfl rfl (by exact idx2) (by rfl) rfl (by omega) rfl) ?_
            refine RG_val rfl rfl (fun _ => rfl) (fun _ => X_move rfl rfl) ?_
            refine RG_buildSl (enc := encI) [p] (lenI _) rfl (fun _ => rfl) rfl rfl rfl rfl rfl rfl rfl rfl rfl rfl rfl rfl (fun _ => rfl) ?_
            refine RG_append (enc := encI) (L := qs[k]) (L' := [p]) rfl (fun _ => rfl) (fun _ => rfl) elemI rfl (fun vs h' hl hf => hf.1) (flatI _) (by simp only [List.length_cons, List.length_nil]; omega) (by simp only [List.length_cons, List.length_nil]; omega) rfl rfl (fun _ => rfl) ?_
            refine RG_nil ?_
            refine RG_endC (.refl _) (fun vs => by simp only [endE, List.cons_append, List.nil_append] <;> rfl) (fun vs => by simp only [endR, List.cons_append, List.nil_append, List.append_nil] <;> rfl) (fun vs h' hf => hf) ?_
            rintro ws h5 hl5 -
            simp only [Nat.zero_add, Nat.reduceAdd]
            generalize ws 14 = r
            refine WL_updE (UpdE.shapeL 0 rfl) ?_
            rintro _ h5 - ⟨rfl, rfl, a3, cap3, rfl⟩
            refine WL_upd (Upd.putZ hkv hk) ?_
            refine WL_is (X_index_row rfl rfl (by exact idx2) rfl rfl rfl (by omega)) rfl rfl rfl ?_
            refine WL_store_spot rfl rfl rfl (by exact idx2) (by rfl) rfl rfl rfl rfl rfl (by omega) rfl rfl rfl rfl ?_
            (repeat (first | refine WL_nil ?_ | refine Then_normal ?_ | refine W_seq ?_))
            skip
            refine W_region rfl ?_
            refine WL_is (X_move rfl rfl) rfl rfl rfl ?_
            refine WL_is (X_nilCheck rfl rfl) rfl rfl rfl ?_
            refine WL_is (X_fieldAddr rfl rfl rfl (by simp only [Nat.zero_add] <;> rfl)) rfl rfl rfl ?_
            refine WL_is (X_load1 rfl rfl (by exact idx1) rfl rfl) rfl rfl rfl ?_
            refine WL_is (X_move rfl rfl) rfl rfl rfl ?_
            refine WL_is (X_index_row rfl rfl (by exact idx2) rfl rfl rfl (by omega)) rfl rfl rfl ?_
            refine WL_is (X_load_spot rfl rfl (by exact idx2) (by (simp only [List.length_set]; first | done | omega)) rfl (by (simp only [List.length_set]; omega)) rfl) rfl rfl rfl ?_
            rw [List.getElem_set_self]
            have hap : (qs[k] ++ [p]).length = qs[k].length + 1 := by simp
            by_cases hq0 : qs[k].length = 0
            · rw [decide_eq_true hq0]
              refine WL_is (X_len rfl rfl rfl) rfl rfl rfl ?_
              refine WL_is (X_eql_t rfl rfl rfl (by omega)) rfl rfl rfl ?_
              refine WL_is (X_assign rfl rfl) rfl rfl rfl ?_
              refine WL_is (X_assign rfl rfl) rfl rfl rfl ?_
              (repeat (first | refine WL_nil ?_ | refine Then_normal ?_ | refine W_ret ?_))
              refine Body_vals (.cons (.tmp rfl) (.cons (.tmp rfl) .nil)) rfl ?_
              refine (UpdE.sub (A := fun R' _ => R' = _) (SubR.trans (SubR.of_perm (perm_front 1 rfl)) (SubR.cons _ (SubR.trans (SubR.of_perm (perm_front 1 rfl)) (SubR.refl _)))) rfl).then ?_
              rintro _ h6 - rfl
              exact UpdE.of (Upd.tabL (by simp; omega)) ⟨rfl, rfl⟩
            · rw [decide_eq_false hq0]
              refine WL_is (X_len rfl rfl rfl) rfl rfl rfl ?_
              refine WL_is (X_eql_f rfl rfl rfl (by omega)) rfl rfl rfl ?_
              refine WL_is (X_assign rfl rfl) rfl rfl rfl ?_
              refine WL_is (X_assign rfl rfl) rfl rfl rfl ?_
              (repeat (first | refine WL_nil ?_ | refine Then_normal ?_ | refine W_ret ?_))
              refine Body_vals (.cons (.tmp rfl) (.cons (.tmp rfl) .nil)) rfl ?_
              refine (UpdE.sub (A := fun R' _ => R' = _) (SubR.trans (SubR.of_perm (perm_front 1 rfl)) (SubR.cons _ (SubR.trans (SubR.of_perm (perm_front 1 rfl)) (SubR.refl _)))) rfl).then ?_
              rintro _ h6 - rfl
              exact UpdE.of (Upd.tabL (by simp; omega)) ⟨rfl, rfl⟩
    · have hV : wantV qs procs p id = tup false 2 := by unfold wantV; rw [if_neg (not_not_intro hm), if_pos hid]
      have hQ : wantQ qs procs p id = qs := by unfold wantQ; exact if_neg fun hg => hid hg.2.1
      rw [hV, hQ]
      by_cases hneg : id < 0
      · refine WL_is (X_assign rfl rfl) rfl rfl rfl ?_
        (repeat (first | refine WL_nil ?_ | refine Then_normal ?_ | refine W_seq ?_))
        skip
        refine W_region rfl ?_
        refine WL_is (X_move rfl rfl) rfl rfl rfl ?_
        refine WL_is (X_neq_f rfl rfl rfl (by omega)) rfl rfl rfl ?_
        (repeat (first | refine WL_nil ?_ | refine Then_normal ?_ | refine W_seq ?_ | refine W_skip ?_ | refine W_false rfl ?_))
        skip
        refine W_region rfl ?_
        refine WL_is (X_move rfl rfl) rfl rfl rfl ?_
        refine WL_is (X_lss_t rfl rfl rfl (by omega)) rfl rfl rfl ?_
        refine WL_is (X_move rfl rfl) rfl rfl rfl ?_
        refine WL_off rfl rfl rfl ?_
        refine WL_off rfl rfl rfl ?_
        refine WL_off rfl rfl rfl ?_
        refine WL_off rfl rfl rfl ?_
        refine WL_off rfl rfl rfl ?_
        refine WL_off rfl rfl rfl ?_
        refine WL_off rfl rfl rfl ?_
        refine WL_is (X_pick_t rfl rfl rfl) rfl rfl rfl ?_
        (repeat (first | refine WL_nil ?_ | refine Then_normal ?_ | refine W_seq ?_ | refine W_true rfl ?_))
        skip
        refine W_region rfl ?_
        refine WL_is (X_assign rfl rfl) rfl rfl rfl ?_
        refine WL_is (X_assign rfl rfl) rfl rfl rfl ?_
        (repeat (first | refine WL_nil ?_ | refine Then_normal ?_ | refine W_ret ?_ | refine Then_ret ?_))
        refine Body_vals (.cons (.tmp rfl) (.cons (.tmp rfl) .nil)) rfl ?_
        exact UpdE.of (Upd.tabL (by omega)) ⟨rfl, rfl⟩
      · refine WL_is (X_assign rfl rfl) rfl rfl rfl ?_
        (repeat (first | refine WL_nil ?_ | refine Then_normal ?_ | refine W_seq ?_))
        skip
        refine W_region rfl ?_
        refine WL_is (X_move rfl rfl) rfl rfl rfl ?_
        refine WL_is (X_neq_f rfl rfl rfl (by omega)) rfl rfl rfl ?_
        (repeat (first | refine WL_nil ?_ | refine Then_normal ?_ | refine W_seq ?_ | refine W_skip ?_ | refine W_false rfl ?_))
        skip
        refine W_region rfl ?_
        refine WL_is (X_move rfl rfl) rfl rfl rfl ?_
        refine WL_is (X_lss_f rfl rfl rfl (by omega)) rfl rfl rfl ?_
        refine WL_is (X_move rfl rfl) rfl rfl rfl ?_
        refine WL_is (X_move rfl rfl) rfl rfl rfl ?_
        refine WL_is (X_move rfl rfl) rfl rfl rfl ?_
        refine WL_is (X_nilCheck rfl rfl) rfl rfl rfl ?_
        refine WL_is (X_fieldAddr rfl rfl rfl (by simp only [Nat.zero_add] <;> rfl)) rfl rfl rfl ?_
        refine WL_is (X_load1 rfl rfl (by exact idx0) rfl rfl) rfl rfl rfl ?_
        refine WL_is (X_len rfl rfl rfl) rfl rfl rfl ?_
        refine WL_is (X_geq_t rfl rfl rfl (by omega)) rfl rfl rfl ?_
        refine WL_is (X_pick_f rfl rfl rfl) rfl rfl rfl ?_
        (repeat (first | refine WL_nil ?_ | refine Then_normal ?_ | refine W_seq ?_ | refine W_true rfl ?_))
        skip
        refine W_region rfl ?_
        refine WL_is (X_assign rfl rfl) rfl rfl rfl ?_
        refine WL_is (X_assign rfl rfl) rfl rfl rfl ?_
        (repeat (first | refine WL_nil ?_ | refine Then_normal ?_ | refine W_ret ?_ | refine Then_ret ?_))
        refine Body_vals (.cons (.tmp rfl) (.cons (.tmp rfl) .nil)) rfl ?_
        exact UpdE.of (Upd.tabL (by omega)) ⟨rfl, rfl⟩
  · have hm2 : mayE procs p = 2 := by unfold mayE at *; split at hm <;> simp_all
    have hV : wantV qs procs p id = tup false 2 := by unfold wantV; rw [if_pos hm]
    have hQ : wantQ qs procs p id = qs := by unfold wantQ; exact if_neg fun hg => hm hg.1
    rw [hV, hQ, hm2]
    refine WL_is (X_assign rfl rfl) rfl rfl rfl ?_
    (repeat (first | refine WL_nil ?_ | refine Then_normal ?_ | refine W_seq ?_))
    skip
    refine W_region rfl ?_
    refine WL_is (X_move rfl rfl) rfl rfl rfl ?_
    refine WL_is (X_neq_t rfl rfl rfl (by omega)) rfl rfl rfl ?_
    (repeat (first | refine WL_nil ?_ | refine Then_normal ?_ | refine W_seq ?_ | refine W_true rfl ?_))
    skip
    refine W_region rfl ?_
    refine WL_is (X_move rfl rfl) rfl rfl rfl ?_
    refine WL_is (X_assign rfl rfl) rfl rfl rfl ?_
    refine WL_is (X_assign rfl rfl) rfl rfl rfl ?_
    (repeat (first | refine WL_nil ?_ | refine Then_normal ?_ | refine W_ret ?_ | refine Then_ret ?_))
    exact Body_end rfl rfl rfl (SubR.refl _) ⟨rfl, rfl⟩
theorem QOk.want {qs : List (List Int)} {procs p id : Int} (ok : QOk qs) {n : Nat} (hn : ∀ q ∈ qs, q.length ≤ n) : ∀ q ∈ wantQ qs procs p id, q.length ≤ n + 1 := by
  intro q hq
  unfold wantQ at hq
  split at hq
  · rename_i hg
    obtain ⟨_, hid, _⟩ := hg
    rcases List.mem_or_eq_of_mem_set hq with h | h
    · have := hn q h; omega
    · have hk : id.toNat < qs.length := by omega
      have he : queueAt qs id = qs[id.toNat] := by unfold queueAt; rw [if_pos hid]; simp [hk]
      rw [h, he, List.length_append]
      have := hn _ (List.getElem_mem hk)
      simp; omega
  · have := hn q hq; omega
end Go.Proofs.Ytgbcdjofkfdgnaa
