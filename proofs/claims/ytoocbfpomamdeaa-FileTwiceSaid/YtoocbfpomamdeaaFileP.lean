/- Files: what is cut off twice. -/
import Derived.Test.YtoocbfpomamdeaaFileN
namespace Go.Proofs.Ytoocbfpomamdeaa
set_option maxRecDepth 4000
open Go Go.Par PH
theorem cutE_ok {m : List Int} {z : Int} (h : cutE m z = 0) : mayM m = true ∧ 0 ≤ z ∧ z ≤ 8192 := by
  unfold cutE at h
  split at h
  · cases h
  · rename_i hb
    refine ⟨by cases hm : mayM m with | true => rfl | false => exact absurd (.inl hm) hb, ?_, ?_⟩ <;> omega
theorem cutE_two {m : List Int} {z : Int} (h : ¬ cutE m z = 0) : cutE m z = 2 := by
  unfold cutE at h ⊢
  split
  · rfl
  · rename_i hb; rw [if_neg hb] at h; exact absurd rfl h
theorem leftC_at {m : List Int} {z : Int} (h : cutE m z = 0) (j : Nat) (hj : j < 32) : (leftC m z)[j]? = if stayN z ≤ j then some 0 else m[j]? := by
  obtain ⟨hM, h1, h2⟩ := cutE_ok h
  have hml := mayM_len hM
  have hw : stayN z ≤ 32 := by unfold stayN; omega
  unfold leftC
  rw [if_pos h, leftK_at hml (by omega)]
  by_cases hc : stayN z ≤ j
  · rw [if_pos (by omega), if_pos hc]
  · rw [if_neg (by omega), if_neg hc]
theorem leftC_len {m : List Int} {z : Int} (h : cutE m z = 0) : (leftC m z).length = 32 := by
  obtain ⟨hM, h1, h2⟩ := cutE_ok h
  unfold leftC
  rw [if_pos h, leftK_len (mayM_len hM) (by unfold stayN; omega)]
theorem leftC_may {m : List Int} {z : Int} (h : cutE m z = 0) : mayM (leftC m z) = true := by
  obtain ⟨hM, h1, h2⟩ := cutE_ok h
  have hml := mayM_len hM
  have hl := leftC_len h
  unfold mayM
  rw [hl]
  simp only [decide_true, Bool.true_and, Bool.not_eq_true', List.any_eq_false]
  intro x hx
  obtain ⟨j, hj, rfl⟩ := List.getElem_of_mem hx
  have hat := leftC_at h j (by omega)
  rw [List.getElem?_eq_getElem hj] at hat
  split at hat
  · rw [Option.some.inj hat]; decide
  · rw [List.getElem?_eq_getElem (by omega)] at hat
    rw [Option.some.inj hat]
    have := mayM_get hM (k := j) (by omega)
    simp [badI]; omega
theorem leftC_twice {m : List Int} {B S : Int} (h : cutE m B = 0) (hS : 0 ≤ S) (hle : S ≤ B) : cutE m S = 0 ∧ cutE (leftC m B) S = 0 ∧ leftC (leftC m B) S = leftC m S ∧ tailC (leftC m B) S = tailC m S ∧ goneC (leftC m B) S ++ goneC m B = goneC m S := by
  obtain ⟨hM, h1, h2⟩ := cutE_ok h
  have hml := mayM_len hM
  have hLl := leftC_len h
  have hLm := leftC_may h
  have e1 : cutE m S = 0 := by unfold cutE; rw [if_neg]; rintro (hh | hh | hh) <;> first | (rw [hM] at hh; cases hh) | omega
  have e2 : cutE (leftC m B) S = 0 := by unfold cutE; rw [if_neg]; rintro (hh | hh | hh) <;> first | (rw [hLm] at hh; cases hh) | omega
  have hst : stayN S ≤ stayN B := by unfold stayN; omega
  have hB32 : stayN B ≤ 32 := by unfold stayN; omega
  refine ⟨e1, e2, ?_, ?_, ?_⟩
  · apply List.ext_getElem?
    intro j
    by_cases hj : j < 32
    · rw [leftC_at e2 j hj, leftC_at e1 j hj, leftC_at h j hj]
      by_cases hc : stayN S ≤ j
      · rw [if_pos hc, if_pos hc]
      · rw [if_neg hc, if_neg hc, if_neg (by omega)]
    · rw [List.getElem?_eq_none (by rw [leftC_len e2]; omega), List.getElem?_eq_none (by rw [leftC_len e1]; omega)]
  · unfold tailC
    rw [if_pos e1, if_pos e2]
    unfold tailT
    by_cases hc : 0 < S % 256
    · have hj : (S / 256).toNat < stayN B := by unfold stayN; omega
      have e := leftC_at h (S / 256).toNat (by omega)
      rw [if_neg (by omega)] at e
      rw [e]
    · rw [if_neg (fun hh => hc hh.1), if_neg (fun hh => hc hh.1)]
  · unfold goneC
    rw [if_pos e1, if_pos e2, if_pos h]
    unfold leftC
    rw [if_pos h]
    generalize stayN S = s at *
    generalize stayN B = b at *
    unfold goneK
    have t1 : ∀ (l : List Int) (k : Nat), l.length = 32 → (l.drop k).take (32 - k) = l.drop k := fun l k hl => List.take_of_length_le (by simp [hl])
    rw [t1 _ _ (leftK_len hml (by omega)), t1 _ _ hml, t1 _ _ hml]
    have e : leftK m b (32 - b) = m.take b ++ List.replicate (32 - b) 0 := by
      unfold leftK
      rw [List.drop_of_length_le (by omega), List.append_nil]
    rw [e, List.drop_append_of_le_length (by simp [hml]; omega), List.filter_append]
    have e0 : (List.replicate (32 - b) (0 : Int)).filter (fun x => decide (¬ x = 0)) = [] := by
      rw [List.filter_eq_nil_iff]; intro x hx; simp [(List.mem_replicate.1 hx).2]
    rw [e0, List.append_nil, ← List.filter_append]
    congr 1
    have : m.drop s = (m.drop s).take (b - s) ++ (m.drop s).drop (b - s) := (List.take_append_drop _ _).symm
    rw [List.drop_drop, show s + (b - s) = b from by omega] at this
    rw [this]
    congr 1
    rw [List.drop_take]
theorem goneC_len (m : List Int) (z : Int) : (goneC m z).length ≤ 32 := by
  unfold goneC; split
  · exact Nat.le_trans goneK_len (by omega)
  · simp
attribute [local irreducible] W WL Does Exec Body Then inBlk RG WR row obj pblk
set_option maxHeartbeats 4000000 in
theorem twice_law (h : PH) (m : List Int) (v : Value) (a b : Nat) (hv : Sl encI 1 h v m) (ha : a ≤ 65535) (hb : b ≤ 65535) : Does Try.prog 7 [v, .int .u16 (a : Int), .int .u16 (b : Int)] [] h (Ret fun r _ _ => r = .bool true) := by
  have hal := fun h => alive_fn h
  obtain ⟨va, vc, rfl⟩ := hv.shape
  refine Does_of_W Try.func7 rfl (n := 139) rfl rfl (by simp only [argE, Nat.reduceAdd] <;> rfl) ?_
  by_cases h1 : (m.length : Int) > 100
  · have hal := hal h
    (repeat (first | refine W_seq ?_))
    skip
    refine W_region rfl ?_
    refine WL_is (X_assign rfl rfl) rfl rfl rfl ?_
    (repeat (first | refine WL_nil ?_ | refine Then_normal ?_ | refine W_seq ?_))
    skip
    refine W_region rfl ?_
    refine WL_is (X_move rfl rfl) rfl rfl rfl ?_
    refine WL_is (X_len_sl rfl rfl rfl (by assumption)) rfl rfl rfl ?_
    refine WL_is (X_gtr_t rfl rfl rfl (by omega)) rfl rfl rfl ?_
    (repeat (first | refine WL_nil ?_ | refine Then_normal ?_ | refine W_seq ?_ | refine W_true rfl ?_))
    skip
    refine W_region rfl ?_
    refine WL_is (X_callv rfl rfl rfl Try.func8 rfl (by assumption)) rfl rfl rfl ?_
    refine WL_is (X_assign rfl rfl) rfl rfl rfl ?_
    (repeat (first | refine WL_nil ?_ | refine Then_normal ?_ | refine W_ret ?_ | refine Then_ret ?_))
    refine Body_end rfl rfl rfl (SubR.none _) ?_
    rfl
  obtain ⟨B, hB⟩ : ∃ B : Int, B = max (a : Int) (b : Int) := ⟨_, rfl⟩
  obtain ⟨S, hS⟩ : ∃ S : Int, S = min (a : Int) (b : Int) := ⟨_, rfl⟩
  have hS0 : 0 ≤ S := by omega
  have hSB : S ≤ B := by omega
  have hBm : B ≤ 65535 := by omega
  (repeat (first | refine W_seq ?_))
  skip
  refine W_region rfl ?_
  refine WL_is (X_assign rfl rfl) rfl rfl rfl ?_
  (repeat (first | refine WL_nil ?_ | refine Then_normal ?_ | refine W_seq ?_))
  skip
  refine W_region rfl ?_
  refine WL_is (X_move rfl rfl) rfl rfl rfl ?_
  refine WL_is (X_len_sl rfl rfl rfl (by assumption)) rfl rfl rfl ?_
  refine WL_is (X_gtr_f rfl rfl rfl (by omega)) rfl rfl rfl ?_
  (repeat (first | refine WL_nil ?_ | refine Then_normal ?_ | refine W_seq ?_ | refine W_skip ?_ | refine W_false rfl ?_))
  skip
  refine W_region rfl ?_
  refine WL_is (X_move rfl rfl) rfl rfl rfl ?_
  refine WL_is (X_move rfl rfl) rfl rfl rfl ?_
  refine WL_is (X_max rfl rfl rfl) rfl rfl rfl ?_
  rw [← hB]
  refine WL_is (X_convW rfl rfl rfl rfl (by exact wrap_i64_in (by omega) (by omega))) rfl rfl rfl ?_
  refine WL_is (X_move rfl rfl) rfl rfl rfl ?_
  refine WL_is (X_move rfl rfl) rfl rfl rfl ?_
  refine WL_is (X_min rfl rfl rfl) rfl rfl rfl ?_
  rw [← hS]
  refine WL_is (X_convW rfl rfl rfl rfl (by exact wrap_i64_in (by omega) (by omega))) rfl rfl rfl ?_
  refine WL_is (X_assign rfl rfl) rfl rfl rfl ?_
  refine WL_is (X_assign rfl rfl) rfl rfl rfl ?_
  (repeat (first | refine WL_nil ?_ | refine Then_normal ?_ | refine W_seq ?_))
  skip
  refine W_region rfl ?_
  refine WL_is (X_move rfl rfl) rfl rfl rfl ?_
  refine WL_append_nil (enc := encI) rfl rfl rfl elemI rfl (Src.sl hv) (flatI m) (by omega) (by omega) rfl rfl rfl ?_
  intro v'
  refine WL_updE (UpdE.row (enc := encI) 0 rfl (lenI _)) ?_
  rintro _ H1 L1 ⟨rfl, ho⟩
  simp only [List.eraseIdx_cons_zero]
  refine WL_is (X_move rfl rfl) rfl rfl rfl ?_
  refine WL_call rfl rfl rfl Try.func16 rfl rfl rfl rfl (cut_fn H1 m _ B ho (by omega)) ?_
  rintro _ _ H2 L2 ⟨rfl, x1, y1, rfl, s1, t1⟩
  obtain ⟨a1, b1, rfl⟩ := s1.shape
  obtain ⟨c1, d1, rfl⟩ := t1.shape
  simp only [List.nil_append]
  generalize htl1 : tailC m B = tl1
  obtain ⟨p1, p2, p3, p4⟩ := tl1
  refine WL_is (X_move rfl rfl) rfl rfl rfl ?_
  refine WL_is (X_extract rfl rfl rfl) rfl rfl rfl ?_
  refine WL_is (X_extract rfl rfl rfl) rfl rfl rfl ?_
  refine WL_is (X_extract rfl rfl rfl) rfl rfl rfl ?_
  refine WL_is (X_extract rfl rfl rfl) rfl rfl rfl ?_
  (refine WL_alloc rfl rfl rfl rfl rfl rfl ?_; intro b_)
  refine WL_is (X_assign rfl rfl) rfl rfl rfl ?_
  refine WL_is (X_assign rfl rfl) rfl rfl rfl ?_
  refine WL_store rfl rfl rfl (by exact idx0) rfl rfl rfl rfl rfl rfl rfl rfl rfl ?_
  refine WL_is (X_assign rfl rfl) rfl rfl rfl ?_
  (repeat (first | refine WL_nil ?_ | refine Then_normal ?_ | refine W_seq ?_))
  generalize b_ = tb1
  skip
  refine W_region rfl ?_
  refine WL_is (X_move rfl rfl) rfl rfl rfl ?_
  refine WL_append_nil (enc := encI) rfl rfl rfl elemI rfl (Src.sl (hv.mono (L1.trans L2))) (flatI m) (by omega) (by omega) rfl rfl rfl ?_
  intro v'
  refine WL_updE (UpdE.row (enc := encI) 0 rfl (lenI _)) ?_
  rintro _ H3 L3 ⟨rfl, ho⟩
  simp only [List.eraseIdx_cons_zero]
  refine WL_is (X_move rfl rfl) rfl rfl rfl ?_
  refine WL_call rfl rfl rfl Try.func16 rfl rfl rfl rfl (cut_fn H3 m _ S ho (by omega)) ?_
  rintro _ _ H4 L4 ⟨rfl, x2, y2, rfl, s2, t2⟩
  obtain ⟨a2, b2, rfl⟩ := s2.shape
  obtain ⟨c2, d2, rfl⟩ := t2.shape
  simp only [List.nil_append]
  generalize htl2 : tailC m S = tl2
  obtain ⟨q1, q2, q3, q4⟩ := tl2
  refine WL_is (X_move rfl rfl) rfl rfl rfl ?_
  refine WL_is (X_extract rfl rfl rfl) rfl rfl rfl ?_
  refine WL_is (X_extract rfl rfl rfl) rfl rfl rfl ?_
  refine WL_is (X_extract rfl rfl rfl) rfl rfl rfl ?_
  refine WL_is (X_extract rfl rfl rfl) rfl rfl rfl ?_
  (refine WL_alloc rfl rfl rfl rfl rfl rfl ?_; intro b_)
  refine WL_is (X_assign rfl rfl) rfl rfl rfl ?_
  refine WL_is (X_assign rfl rfl) rfl rfl rfl ?_
  refine WL_store rfl rfl rfl (by exact idx0) rfl rfl rfl rfl rfl rfl rfl rfl rfl ?_
  refine WL_is (X_assign rfl rfl) rfl rfl rfl ?_
  (repeat (first | refine WL_nil ?_ | refine Then_normal ?_ | refine W_seq ?_))
  generalize b_ = tb2
  by_cases hE : cutE m B = 0
  · obtain ⟨e1, e2, e3, e4, e5⟩ := leftC_twice hE hS0 hSB
    rw [hE, e1]
    have hll := leftC_len hE
    have s1' := s1.mono (L3.trans L4)
    skip
    refine W_region rfl ?_
    refine WL_is (X_move rfl rfl) rfl rfl rfl ?_
    refine WL_is (X_neq_f rfl rfl rfl (by omega)) rfl rfl rfl ?_
    refine WL_is (X_move rfl rfl) rfl rfl rfl ?_
    refine WL_is (X_move rfl rfl) rfl rfl rfl ?_
    refine WL_is (X_neq_f rfl rfl rfl (by omega)) rfl rfl rfl ?_
    refine WL_is (X_pick_f rfl rfl rfl) rfl rfl rfl ?_
    (repeat (first | refine WL_nil ?_ | refine Then_normal ?_ | refine W_seq ?_ | refine W_skip ?_ | refine W_false rfl ?_))
    skip
    refine W_region rfl ?_
    refine WL_is (X_move rfl rfl) rfl rfl rfl ?_
    refine WL_append_nil (enc := encI) rfl rfl rfl elemI rfl (Src.sl s1') (flatI _) (by omega) (by omega) rfl rfl rfl ?_
    intro v'
    refine WL_updE (UpdE.row (enc := encI) 0 rfl (lenI _)) ?_
    rintro _ H5 L5 ⟨rfl, ho⟩
    simp only [List.eraseIdx_cons_zero]
    refine WL_is (X_move rfl rfl) rfl rfl rfl ?_
    refine WL_call rfl rfl rfl Try.func16 rfl rfl rfl rfl (cut_fn H5 (leftC m B) _ S ho (by omega)) ?_
    rintro _ _ H6 L6 ⟨rfl, x3, y3, rfl, s3, t3⟩
    obtain ⟨a3, b3, rfl⟩ := s3.shape
    obtain ⟨c3, d3, rfl⟩ := t3.shape
    simp only [List.nil_append]
    rw [e2, e4, htl2]
    refine WL_is (X_move rfl rfl) rfl rfl rfl ?_
    refine WL_is (X_extract rfl rfl rfl) rfl rfl rfl ?_
    refine WL_is (X_extract rfl rfl rfl) rfl rfl rfl ?_
    refine WL_is (X_extract rfl rfl rfl) rfl rfl rfl ?_
    refine WL_is (X_extract rfl rfl rfl) rfl rfl rfl ?_
    (refine WL_alloc rfl rfl rfl rfl rfl rfl ?_; intro b_)
    refine WL_is (X_assign rfl rfl) rfl rfl rfl ?_
    refine WL_is (X_assign rfl rfl) rfl rfl rfl ?_
    refine WL_store rfl rfl rfl (by exact idx0) rfl rfl rfl rfl rfl rfl rfl rfl rfl ?_
    refine WL_is (X_assign rfl rfl) rfl rfl rfl ?_
    (repeat (first | refine WL_nil ?_ | refine Then_normal ?_ | refine W_seq ?_))
    generalize b_ = tb3
    rw [e3] at s3 ⊢
    have hl3 := leftC_len e1
    have g1 := goneC_len m B
    have g2 := goneC_len m S
    have g3 := goneC_len (leftC m B) S
    have k1 := sameI_ref H6 (leftC m S) (leftC m S) _ _ s3 (s2.mono (L5.trans L6)) (by omega) (by omega)
    rw [decide_eq_true rfl] at k1
    have hs4 : (q4 == q4) = true := beqB q4
    have hb : (!(q1 == q1 && (q2 == q2 && (q3 == q3 && (q4 == q4 && true))))) = false := by simp [hs4]
    have hlen : ((goneC m S).length : Int) = ((goneC m B).length : Int) + ((goneC (leftC m B) S).length : Int) := by rw [← e5, List.length_append]; omega
    have hl3' : ((leftC m S).length : Int) = 32 := by omega
    skip
    refine W_region rfl ?_
    refine WL_is (X_move rfl rfl) rfl rfl rfl ?_
    refine WL_is (X_neq_f rfl rfl rfl (by omega)) rfl rfl rfl ?_
    refine WL_is (X_move rfl rfl) rfl rfl rfl ?_
    refine WL_is (X_move rfl rfl) rfl rfl rfl ?_
    refine WL_is (X_move rfl rfl) rfl rfl rfl ?_
    refine WL_is (X_callv rfl rfl rfl Try.func13 rfl (by assumption)) rfl rfl rfl ?_
    refine WL_is (X_not rfl rfl) rfl rfl rfl ?_
    refine WL_is (X_pick_f rfl rfl rfl) rfl rfl rfl ?_
    refine WL_is (X_move rfl rfl) rfl rfl rfl ?_
    refine WL_is (X_loadA rfl rfl (by exact idx1) rfl rfl rfl) rfl rfl rfl ?_
    refine WL_is (X_loadA rfl rfl (by exact idx0) rfl rfl rfl) rfl rfl rfl ?_
    refine WL_is (X_neA 8 heldOk guardOk rfl rfl rfl rfl rfl rfl rfl) rfl rfl rfl ?_
    dsimp only
    rw [hb]
    refine WL_is (X_pick_f rfl rfl rfl) rfl rfl rfl ?_
    refine WL_is (X_move rfl rfl) rfl rfl rfl ?_
    refine WL_is (X_move rfl rfl) rfl rfl rfl ?_
    refine WL_is (X_len rfl rfl rfl) rfl rfl rfl ?_
    refine WL_is (X_move rfl rfl) rfl rfl rfl ?_
    refine WL_is (X_len rfl rfl rfl) rfl rfl rfl ?_
    refine WL_is (X_move rfl rfl) rfl rfl rfl ?_
    refine WL_is (X_len_sl rfl rfl rfl (by assumption)) rfl rfl rfl ?_
    refine WL_is (X_addW rfl rfl rfl (by exact wrap_i64_in (by omega) (by omega))) rfl rfl rfl ?_
    refine WL_is (X_neq_f rfl rfl rfl (by omega)) rfl rfl rfl ?_
    refine WL_is (X_pick_f rfl rfl rfl) rfl rfl rfl ?_
    refine WL_is (X_move rfl rfl) rfl rfl rfl ?_
    refine WL_is (X_move rfl rfl) rfl rfl rfl ?_
    refine WL_is (X_len_sl rfl rfl rfl (by assumption)) rfl rfl rfl ?_
    refine WL_is (X_neq_f rfl rfl rfl (by omega)) rfl rfl rfl ?_
    refine WL_is (X_pick_f rfl rfl rfl) rfl rfl rfl ?_
    (repeat (first | refine WL_nil ?_ | refine Then_normal ?_ | refine W_seq ?_ | refine W_skip ?_ | refine W_false rfl ?_))
    skip
    refine W_region rfl ?_
    refine WL_is (X_assign rfl rfl) rfl rfl rfl ?_
    (repeat (first | refine WL_nil ?_ | refine Then_normal ?_ | refine W_block ?_))
    have hml := mayM_len (cutE_ok hE).1
    have hvv := hv.mono (L1.trans (L2.trans (L3.trans (L4.trans (L5.trans L6)))))
    have t1' := t1.mono (L3.trans (L4.trans (L5.trans L6)))
    have t2' := t2.mono (L5.trans L6)
    have hat := fun j hj => leftC_at e1 j hj
    have hstay : ∀ k : Nat, (k : Int) * 256 ≥ S ↔ stayN S ≤ k := fun k => by unfold stayN; omega
    generalize leftC m S = LS at *
    refine W_loop (X := Nat) (L := fun k => ⟨[(21, .int .i64 (k : Int)), (17, .slice a3 LS.length b3), (8, .int .i64 S), (0, .slice va m.length vc), (18, .slice c3 (goneC (leftC m B) S).length d3), (10, .slice c1 (goneC m B).length d1), (14, .slice c2 (goneC m S).length d2)], [], [], H6⟩) (p := fun k => k ≤ 32) (μ := fun k => 32 - k) 0 ⟨(by repeat (first | exact SubE_nil | refine SubE_cons rfl ?_)), rfl, SubR.none _, rfl⟩ (Nat.zero_le _) ?_
    intro k hk
    by_cases hlt : (k : Int) < LS.length
    · have hkL : k < LS.length := by omega
      have hkm : k < m.length := by omega
      have hk' := hat k (by omega)
      rw [List.getElem?_eq_getElem hkL, List.getElem?_eq_getElem hkm] at hk'
      by_cases hge : (k : Int) * 256 ≥ S
      · rw [if_pos ((hstay k).1 hge)] at hk'
        have hz : LS[k] = 0 := Option.some.inj hk'
        have hnl : ¬ (k : Int) * 256 < S := by omega
        (repeat (first | refine W_seq ?_))
        refine W_region rfl ?_
        refine WL_is (X_move rfl rfl) rfl rfl rfl ?_
        refine WL_is (X_move rfl rfl) rfl rfl rfl ?_
        refine WL_is (X_len_sl rfl rfl rfl (by assumption)) rfl rfl rfl ?_
        refine WL_is (X_lss_t rfl rfl rfl (by omega)) rfl rfl rfl ?_
        (repeat (first | refine WL_nil ?_ | refine Then_normal ?_ | refine W_seq ?_ | refine W_skip ?_ | refine W_block ?_ | refine W_true rfl ?_))
        skip
        refine W_draw0 25 rfl rfl rfl rfl ?_
        refine RG_val rfl rfl (fun _ => rfl) (fun _ => X_move rfl rfl) ?_
        refine RG_val rfl rfl (fun _ => rfl) (fun _ => X_mulW rfl rfl rfl (by exact wrap_i64_in (by omega) (by omega))) ?_
        refine RG_val rfl rfl (fun _ => rfl) (fun _ => X_move rfl rfl) ?_
        refine RG_val rfl rfl (fun _ => rfl) (fun _ => X_geq_t rfl rfl rfl (by omega)) ?_
        refine RG_val rfl rfl (fun _ => rfl) (fun _ => X_move rfl rfl) ?_
        refine RG_val rfl rfl (fun _ => rfl) (fun _ => X_move rfl rfl) ?_
        refine RG_val rfl rfl (fun _ => rfl) (fun _ => X_move rfl rfl) ?_
        (refine RG_index_slN rfl rfl rfl (fun _ => rfl) (fun _ => rfl) (by assumption) (by omega) rfl rfl (fun _ => rfl) ?_; intro p_ hp_)
        refine RG_val rfl rfl (fun _ => rfl) (fun _ => X_load1_at rfl rfl (by assumption) rfl rfl) ?_
        refine RG_val rfl rfl (fun _ => rfl) (fun _ => X_neq_f rfl rfl rfl (by omega)) ?_
        refine RG_val rfl rfl (fun _ => rfl) (fun _ => X_pick_t rfl rfl rfl) ?_
        refine RG_val rfl rfl (fun _ => rfl) (fun _ => X_move rfl rfl) ?_
        refine RG_val rfl rfl (fun _ => rfl) (fun _ => X_move rfl rfl) ?_
        refine RG_val rfl rfl (fun _ => rfl) (fun _ => X_mulW rfl rfl rfl (by exact wrap_i64_in (by omega) (by omega))) ?_
        refine RG_val rfl rfl (fun _ => rfl) (fun _ => X_move rfl rfl) ?_
        refine RG_val rfl rfl (fun _ => rfl) (fun _ => X_lss_f rfl rfl rfl (by omega)) ?_
        refine RG_val rfl rfl (fun _ => rfl) (fun _ => X_move rfl rfl) ?_
        refine RG_off rfl rfl (fun _ => rfl) ?_
        refine RG_off rfl rfl (fun _ => rfl) ?_
        refine RG_off rfl rfl (fun _ => rfl) ?_
        refine RG_off rfl rfl (fun _ => rfl) ?_
        refine RG_off rfl rfl (fun _ => rfl) ?_
        refine RG_off rfl rfl (fun _ => rfl) ?_
        refine RG_off rfl rfl (fun _ => rfl) ?_
        refine RG_off rfl rfl (fun _ => rfl) ?_
        refine RG_nil ?_
        refine RG_endv rfl (fun vs => by simp only [endE, List.cons_append, List.nil_append] <;> rfl) (fun vs => rfl) ?_
        refine WL_off rfl rfl rfl ?_
        refine WL_is (X_pick_f rfl rfl rfl) rfl rfl rfl ?_
        refine WL_is (X_pick_f rfl rfl rfl) rfl rfl rfl ?_
        (repeat (first | refine WL_nil ?_ | refine Then_normal ?_ | refine W_skip ?_ | refine inBlk_normal ?_ | refine W_false rfl ?_))
        skip
        refine W_region rfl ?_
        refine WL_is (X_move rfl rfl) rfl rfl rfl ?_
        refine WL_is (X_addW rfl rfl rfl (by exact wrap_i64_in (by omega) (by omega))) rfl rfl rfl ?_
        refine WL_is (X_assign rfl rfl) rfl rfl rfl ?_
        (repeat (first | refine WL_nil ?_ | refine Then_normal ?_))
        exact ⟨k + 1, ⟨(by repeat (first | exact SubE_nil | refine SubE_cons rfl ?_)), rfl, SubR.none _, rfl⟩, by omega, by omega⟩
      · rw [if_neg (fun hh => hge ((hstay k).2 hh))] at hk'
        have hz : LS[k] = m[k] := Option.some.inj hk'
        have hnl : (k : Int) * 256 < S := by omega
        (repeat (first | refine W_seq ?_))
        refine W_region rfl ?_
        refine WL_is (X_move rfl rfl) rfl rfl rfl ?_
        refine WL_is (X_move rfl rfl) rfl rfl rfl ?_
        refine WL_is (X_len_sl rfl rfl rfl (by assumption)) rfl rfl rfl ?_
        refine WL_is (X_lss_t rfl rfl rfl (by omega)) rfl rfl rfl ?_
        (repeat (first | refine WL_nil ?_ | refine Then_normal ?_ | refine W_seq ?_ | refine W_skip ?_ | refine W_block ?_ | refine W_true rfl ?_))
        skip
        refine W_draw0 25 rfl rfl rfl rfl ?_
        refine RG_val rfl rfl (fun _ => rfl) (fun _ => X_move rfl rfl) ?_
        refine RG_val rfl rfl (fun _ => rfl) (fun _ => X_mulW rfl rfl rfl (by exact wrap_i64_in (by omega) (by omega))) ?_
        refine RG_val rfl rfl (fun _ => rfl) (fun _ => X_move rfl rfl) ?_
        refine RG_val rfl rfl (fun _ => rfl) (fun _ => X_geq_f rfl rfl rfl (by omega)) ?_
        refine RG_val rfl rfl (fun _ => rfl) (fun _ => X_move rfl rfl) ?_
        refine RG_off rfl rfl (fun _ => rfl) ?_
        refine RG_off rfl rfl (fun _ => rfl) ?_
        refine RG_off rfl rfl (fun _ => rfl) ?_
        refine RG_off rfl rfl (fun _ => rfl) ?_
        refine RG_off rfl rfl (fun _ => rfl) ?_
        refine RG_val rfl rfl (fun _ => rfl) (fun _ => X_pick_f rfl rfl rfl) ?_
        refine RG_val rfl rfl (fun _ => rfl) (fun _ => X_move rfl rfl) ?_
        refine RG_val rfl rfl (fun _ => rfl) (fun _ => X_move rfl rfl) ?_
        refine RG_val rfl rfl (fun _ => rfl) (fun _ => X_mulW rfl rfl rfl (by exact wrap_i64_in (by omega) (by omega))) ?_
        refine RG_val rfl rfl (fun _ => rfl) (fun _ => X_move rfl rfl) ?_
        refine RG_val rfl rfl (fun _ => rfl) (fun _ => X_lss_t rfl rfl rfl (by omega)) ?_
        refine RG_val rfl rfl (fun _ => rfl) (fun _ => X_move rfl rfl) ?_
        refine RG_val rfl rfl (fun _ => rfl) (fun _ => X_move rfl rfl) ?_
        refine RG_val rfl rfl (fun _ => rfl) (fun _ => X_move rfl rfl) ?_
        (refine RG_index_slN rfl rfl rfl (fun _ => rfl) (fun _ => rfl) (by assumption) (by omega) rfl rfl (fun _ => rfl) ?_; intro p_ hp_)
        refine RG_val rfl rfl (fun _ => rfl) (fun _ => X_load1_at rfl rfl (by assumption) rfl rfl) ?_
        refine RG_val rfl rfl (fun _ => rfl) (fun _ => X_move rfl rfl) ?_
        refine RG_val rfl rfl (fun _ => rfl) (fun _ => X_move rfl rfl) ?_
        (refine RG_index_slN rfl rfl rfl (fun _ => rfl) (fun _ => rfl) (by assumption) (by omega) rfl rfl (fun _ => rfl) ?_; intro p_ hp_)
        refine RG_val rfl rfl (fun _ => rfl) (fun _ => X_load1_at rfl rfl (by assumption) rfl rfl) ?_
        refine RG_nil ?_
        refine RG_endv rfl (fun vs => by simp only [endE, List.cons_append, List.nil_append] <;> rfl) (fun vs => rfl) ?_
        refine WL_is (X_neq_f rfl rfl rfl (by omega)) rfl rfl rfl ?_
        refine WL_is (X_pick_t rfl rfl rfl) rfl rfl rfl ?_
        refine WL_is (X_pick_f rfl rfl rfl) rfl rfl rfl ?_
        (repeat (first | refine WL_nil ?_ | refine Then_normal ?_ | refine W_skip ?_ | refine inBlk_normal ?_ | refine W_false rfl ?_))
        skip
        refine W_region rfl ?_
        refine WL_is (X_move rfl rfl) rfl rfl rfl ?_
        refine WL_is (X_addW rfl rfl rfl (by exact wrap_i64_in (by omega) (by omega))) rfl rfl rfl ?_
        refine WL_is (X_assign rfl rfl) rfl rfl rfl ?_
        (repeat (first | refine WL_nil ?_ | refine Then_normal ?_))
        exact ⟨k + 1, ⟨(by repeat (first | exact SubE_nil | refine SubE_cons rfl ?_)), rfl, SubR.none _, rfl⟩, by omega, by omega⟩
    · have hal := fun h => hal h
      (repeat (first | refine W_seq ?_))
      refine W_region rfl ?_
      refine WL_is (X_move rfl rfl) rfl rfl rfl ?_
      refine WL_is (X_move rfl rfl) rfl rfl rfl ?_
      refine WL_is (X_len_sl rfl rfl rfl (by assumption)) rfl rfl rfl ?_
      refine WL_is (X_lss_f rfl rfl rfl (by omega)) rfl rfl rfl ?_
      (repeat (first | refine WL_nil ?_ | refine Then_normal ?_ | refine W_seq ?_ | refine W_exit ?_ | refine Then_exit ?_ | refine inBlk_here ?_ | refine W_false rfl ?_))
      skip
      refine W_region rfl ?_
      refine WL_is (X_move rfl rfl) rfl rfl rfl ?_
      refine WL_append_nil (enc := encI) rfl rfl rfl elemI rfl (Src.sl t3) (flatI _) (by omega) (by omega) rfl rfl rfl ?_
      intro v1
      refine WL_is (X_move rfl rfl) rfl rfl rfl ?_
      refine WL_append (enc := encI) (i := 0) rfl rfl rfl elemI rfl rfl (Src.sl t1') (flatI _) (by omega) (by omega) rfl rfl rfl ?_
      intro v2
      simp only [List.set_cons_zero]
      rw [e5]
      refine WL_updE (UpdE.row (enc := encI) 0 rfl (lenI _)) ?_
      rintro _ H7 L7 ⟨rfl, hw⟩
      simp only [List.eraseIdx_cons_zero]
      have k2 := sameI_ref H7 (goneC m S) (goneC m S) _ _ hw (t2'.mono L7) (by omega) (by omega)
      rw [decide_eq_true rfl] at k2
      have hal := hal H7
      refine WL_is (X_move rfl rfl) rfl rfl rfl ?_
      refine WL_is (X_callv rfl rfl rfl Try.func13 rfl (by assumption)) rfl rfl rfl ?_
      refine WL_is (X_move rfl rfl) rfl rfl rfl ?_
      refine WL_is (X_callv rfl rfl rfl Try.func8 rfl (by assumption)) rfl rfl rfl ?_
      refine WL_is (X_pick_t rfl rfl rfl) rfl rfl rfl ?_
      refine WL_is (X_assign rfl rfl) rfl rfl rfl ?_
      (repeat (first | refine WL_nil ?_ | refine Then_normal ?_ | refine W_ret ?_))
      refine Body_end rfl rfl rfl (SubR.none _) ?_
      rfl
  · have hE2 := cutE_two hE
    rw [hE2]
    have hal := hal H4
    skip
    refine W_region rfl ?_
    refine WL_is (X_move rfl rfl) rfl rfl rfl ?_
    refine WL_is (X_neq_t rfl rfl rfl (by omega)) rfl rfl rfl ?_
    refine WL_is (X_move rfl rfl) rfl rfl rfl ?_
    refine WL_off rfl rfl rfl ?_
    refine WL_off rfl rfl rfl ?_
    refine WL_is (X_pick_t rfl rfl rfl) rfl rfl rfl ?_
    (repeat (first | refine WL_nil ?_ | refine Then_normal ?_ | refine W_seq ?_ | refine W_true rfl ?_))
    skip
    refine W_region rfl ?_
    refine WL_is (X_callv rfl rfl rfl Try.func8 rfl (by assumption)) rfl rfl rfl ?_
    refine WL_is (X_assign rfl rfl) rfl rfl rfl ?_
    (repeat (first | refine WL_nil ?_ | refine Then_normal ?_ | refine W_ret ?_ | refine Then_ret ?_))
    refine Body_end rfl rfl rfl (SubR.none _) ?_
    rfl
end Go.Proofs.Ytoocbfpomamdeaa
