/- Names and paths: slashes; the chapter's examples; the laws on checks and on splits. -/
import Derived.Test.YthcolbdlalpcjaaNameL
namespace Go.Proofs.Ythcolbdlalpcjaa
set_option maxRecDepth 4000
open Go Go.Par PH
theorem sum_le : ∀ (l cur : Bs), sumT (partsG cur l) ≤ cur.length + l.length
  | [], cur => by simp only [partsG]; split <;> simp [sumT]
  | c :: l, cur => by
    by_cases hc : c = 47
    · subst hc
      have ih := sum_le l []
      simp only [partsG, if_true, List.length_nil, List.length_cons] at ih ⊢
      split
      · omega
      · rw [sumT_cons]; omega
    · simp only [partsG, if_neg hc]
      have ih := sum_le l (cur ++ [c])
      simp only [List.length_append, List.length_cons, List.length_nil] at ih ⊢
      omega
theorem split_eq {l m : Bs} (h0 : l ≠ []) (g0 : m ≠ []) (h1 : l.length ≤ 64) (g1 : m.length ≤ 64) (h2 : (0 : UInt8) ∈ l ↔ (0 : UInt8) ∈ m) (h3 : partsL l = partsL m) (h4 : headB l = headB m) (h5 : lastB l = lastB m) : splitE l = splitE m ∧ splitR l = splitR m := by
  have e : splitE l = splitE m := by
    unfold splitE
    rw [if_neg h0, if_neg g0, if_neg (show ¬ 64 < l.length by omega), if_neg (show ¬ 64 < m.length by omega), h3]
    by_cases hz : (0 : UInt8) ∈ m
    · rw [if_pos (h2.2 hz), if_pos hz]
    · rw [if_neg (fun hh => hz (h2.1 hh)), if_neg hz]
  refine ⟨e, ?_⟩
  unfold splitR dirB
  rw [e, h3, h4, h5]
/-- More slashes where there is one. -/
theorem slash_same (a b : Bs) (m : Nat) (h : (a ++ (List.replicate m 47 ++ 47 :: b)).length ≤ 64) : splitE (a ++ 47 :: b) = splitE (a ++ (List.replicate m 47 ++ 47 :: b)) ∧ splitR (a ++ 47 :: b) = splitR (a ++ (List.replicate m 47 ++ 47 :: b)) := by
  refine split_eq (by simp) (by simp) ?_ h ?_ (pg_many a [] b m).symm ?_ ?_
  · simp only [List.length_append, List.length_cons, List.length_replicate] at h ⊢; omega
  · simp only [List.mem_append, List.mem_cons, List.mem_replicate]
    have : ¬ (0 : UInt8) = 47 := by decide
    simp [this]
  · cases a with
    | cons c a => simp [headB]
    | nil => cases m <;> simp [headB, List.replicate_succ]
  · rw [lastB_app _ _ (by simp), ← List.append_assoc, lastB_app _ _ (by simp)]
theorem nn1 : splitE [47, 97, 47, 47, 98, 47] = 0 := by kernel_rfl
theorem nn2 : splitR [47, 97, 47, 47, 98, 47] = ⟨true, true, [[97], [98]]⟩ := by kernel_rfl
theorem nn3 : splitE [] = 602 := by kernel_rfl
theorem nn4 : joinR ⟨true, true, [[97], [98]]⟩ = [47, 97, 47, 98, 47] := by kernel_rfl
theorem nn5 : checkE [97, 47, 98] = 622 := by kernel_rfl
theorem nn6 : dotsB [46, 46] = true := by kernel_rfl
theorem nn7 : dotsB [97] = false := by kernel_rfl
theorem nn8 : bucketL [] = 0 := by kernel_rfl
theorem nn9 : checkE [97] = 0 := by kernel_rfl
attribute [local irreducible] W WL Does Exec Body Then inBlk RG WR row obj pblk
set_option maxHeartbeats 1000000 in
theorem aliveN_fn (h : PH) : Does Try.prog 8 [] [] h (Ret fun r _ _ => r = .bool true) := by
  refine Does_of_W Try.func8 rfl (n := 64) rfl rfl (by simp only [argE] <;> rfl) ?_
  (repeat (first | refine W_seq ?_))
  refine W_region rfl ?_
  refine WL_is (X_assign rfl rfl) rfl rfl rfl ?_
  (repeat (first | refine WL_nil ?_ | refine Then_normal ?_ | refine W_seq ?_))
  skip
  refine W_region rfl ?_
  refine WL_call rfl rfl rfl Try.func15 rfl rfl rfl rfl (split_fn h [47, 97, 47, 47, 98, 47] (by decide)) ?_
  rintro _ _ H1 M1 ⟨⟨w1, rfl, p1⟩, rfl⟩
  rw [nn2] at p1
  rw [nn1]
  obtain ⟨a1, c1, rfl, s1⟩ := p1.shape
  simp only [List.nil_append]
  unfold pthV at *
  refine WL_is (X_move rfl rfl) rfl rfl rfl ?_
  refine WL_is (X_extract rfl rfl rfl) rfl rfl rfl ?_
  refine WL_is (X_extract rfl rfl rfl) rfl rfl rfl ?_
  (refine WL_alloc rfl rfl rfl rfl rfl rfl ?_; intro b_)
  refine WL_store rfl rfl rfl (by exact idx0) rfl rfl rfl rfl rfl rfl rfl rfl rfl ?_
  refine WL_is (X_assign rfl rfl) rfl rfl rfl ?_
  (repeat (first | refine WL_nil ?_ | refine Then_normal ?_ | refine W_seq ?_))
  generalize b_ = pb
  skip
  refine W_region rfl ?_
  refine WL_call rfl rfl rfl Try.func15 rfl rfl rfl rfl (split_fn H1 [] (by decide)) ?_
  rintro _ _ H2 M2 ⟨⟨w2, rfl, p2⟩, rfl⟩
  rw [nn3]
  obtain ⟨a2, c2, rfl, s2⟩ := p2.shape
  simp only [List.nil_append]
  unfold pthV at *
  refine WL_is (X_move rfl rfl) rfl rfl rfl ?_
  refine WL_is (X_extract rfl rfl rfl) rfl rfl rfl ?_
  refine WL_is (X_extract rfl rfl rfl) rfl rfl rfl ?_
  (refine WL_alloc rfl rfl rfl rfl rfl rfl ?_; intro b_)
  refine WL_store rfl rfl rfl (by exact idx0) rfl rfl rfl rfl rfl rfl rfl rfl rfl ?_
  refine WL_is (X_assign rfl rfl) rfl rfl rfl ?_
  (repeat (first | refine WL_nil ?_ | refine Then_normal ?_ | refine W_seq ?_))
  replace p1 := p1.mono M2
  replace s1 := s1.mono M2
  have e1 := join_fn H2 _ _ p1 (by decide) (by decide)
  rw [nn4] at e1
  have e2 : Does Try.prog 9 [.string ⟨#[97, 47, 98]⟩] [] H2 (Ret fun r _ _ => r = .int .i64 622) := checkB_fn H2 [97, 47, 98]
  have e3 : Does Try.prog 11 [.string ⟨#[46, 46]⟩] [] H2 (Ret fun r _ _ => r = .bool true) := dots_fn H2 [46, 46]
  have e4 : Does Try.prog 11 [.string ⟨#[97]⟩] [] H2 (Ret fun r _ _ => r = .bool false) := dots_fn H2 [97]
  have e5 : Does Try.prog 13 [.string ⟨#[]⟩] [] H2 (Ret fun r _ _ => r = .int .i64 0) := by
    have := bucket_fn H2 [] (by decide)
    rw [nn8] at this; exact this
  have e6 : Does Try.prog 9 [.string ⟨#[97]⟩] [] H2 (Ret fun r _ _ => r = .int .i64 0) := checkB_fn H2 [97]
  have k1 : (mkB [98] == (⟨#[98]⟩ : ByteArray)) = true := mkB_beq [98] [98]
  have k2 : (mkB [47, 97, 47, 98, 47] == (⟨#[47, 97, 47, 98, 47]⟩ : ByteArray)) = true := mkB_beq [47, 97, 47, 98, 47] [47, 97, 47, 98, 47]
  have hl2 : (⟨true, true, [[97], [98]]⟩ : Pth).ps.length = 2 := rfl
  skip
  refine W_region rfl ?_
  refine WL_is (X_move rfl rfl) rfl rfl rfl ?_
  refine WL_is (X_eql_t rfl rfl rfl (by omega)) rfl rfl rfl ?_
  refine WL_is (X_move rfl rfl) rfl rfl rfl ?_
  refine WL_is (X_fieldAddr rfl rfl rfl (by simp only [Nat.zero_add] <;> rfl)) rfl rfl rfl ?_
  refine WL_is (X_load1 rfl rfl (by exact idx1) rfl rfl) rfl rfl rfl ?_
  refine WL_is (X_pick_t rfl rfl rfl) rfl rfl rfl ?_
  refine WL_is (X_move rfl rfl) rfl rfl rfl ?_
  refine WL_is (X_fieldAddr rfl rfl rfl (by simp only [Nat.zero_add] <;> rfl)) rfl rfl rfl ?_
  refine WL_is (X_load1 rfl rfl (by exact idx1) rfl rfl) rfl rfl rfl ?_
  refine WL_is (X_pick_t rfl rfl rfl) rfl rfl rfl ?_
  refine WL_is (X_move rfl rfl) rfl rfl rfl ?_
  refine WL_is (X_fieldAddr rfl rfl rfl (by simp only [Nat.zero_add] <;> rfl)) rfl rfl rfl ?_
  refine WL_is (X_load1 rfl rfl (by exact idx1) rfl rfl) rfl rfl rfl ?_
  refine WL_is (X_len_sl rfl rfl rfl (by assumption)) rfl rfl rfl ?_
  refine WL_is (X_eql_t rfl rfl rfl (by omega)) rfl rfl rfl ?_
  refine WL_is (X_pick_t rfl rfl rfl) rfl rfl rfl ?_
  refine WL_is (X_move rfl rfl) rfl rfl rfl ?_
  refine WL_is (X_fieldAddr rfl rfl rfl (by simp only [Nat.zero_add] <;> rfl)) rfl rfl rfl ?_
  refine WL_is (X_load1 rfl rfl (by exact idx1) rfl rfl) rfl rfl rfl ?_
  (refine WL_index_sl rfl rfl rfl rfl rfl (by assumption) (by omega) (by omega) rfl rfl rfl ?_; intro p_ hp_)
  refine WL_is (X_load1_at rfl rfl (by assumption) rfl rfl) rfl rfl rfl ?_
  refine WL_is (X_eqS_c rfl rfl rfl (by assumption)) rfl rfl rfl ?_
  refine WL_is (X_pick_t rfl rfl rfl) rfl rfl rfl ?_
  refine WL_is (X_move rfl rfl) rfl rfl rfl ?_
  refine WL_is (X_move rfl rfl) rfl rfl rfl ?_
  refine WL_is (X_eql_t rfl rfl rfl (by omega)) rfl rfl rfl ?_
  refine WL_is (X_pick_t rfl rfl rfl) rfl rfl rfl ?_
  refine WL_is (X_move rfl rfl) rfl rfl rfl ?_
  refine WL_is (X_loadA rfl rfl (by exact idx1) rfl rfl rfl) rfl rfl rfl ?_
  refine WL_is (X_callv rfl rfl rfl Try.func18 rfl (by assumption)) rfl rfl rfl ?_
  refine WL_is (X_eqS_c rfl rfl rfl (by assumption)) rfl rfl rfl ?_
  refine WL_is (X_pick_t rfl rfl rfl) rfl rfl rfl ?_
  refine WL_is (X_move rfl rfl) rfl rfl rfl ?_
  refine WL_is (X_callv rfl rfl rfl Try.func9 rfl (by assumption)) rfl rfl rfl ?_
  refine WL_is (X_eql_t rfl rfl rfl (by omega)) rfl rfl rfl ?_
  refine WL_is (X_pick_t rfl rfl rfl) rfl rfl rfl ?_
  refine WL_is (X_move rfl rfl) rfl rfl rfl ?_
  refine WL_is (X_callv rfl rfl rfl Try.func11 rfl (by assumption)) rfl rfl rfl ?_
  refine WL_is (X_pick_t rfl rfl rfl) rfl rfl rfl ?_
  refine WL_is (X_move rfl rfl) rfl rfl rfl ?_
  refine WL_is (X_callv rfl rfl rfl Try.func11 rfl (by assumption)) rfl rfl rfl ?_
  refine WL_is (X_not rfl rfl) rfl rfl rfl ?_
  refine WL_is (X_pick_t rfl rfl rfl) rfl rfl rfl ?_
  refine WL_is (X_move rfl rfl) rfl rfl rfl ?_
  refine WL_is (X_callv rfl rfl rfl Try.func13 rfl (by assumption)) rfl rfl rfl ?_
  refine WL_is (X_eql_t rfl rfl rfl (by omega)) rfl rfl rfl ?_
  refine WL_is (X_pick_t rfl rfl rfl) rfl rfl rfl ?_
  refine WL_is (X_move rfl rfl) rfl rfl rfl ?_
  refine WL_is (X_callv rfl rfl rfl Try.func9 rfl (by assumption)) rfl rfl rfl ?_
  refine WL_is (X_eql_t rfl rfl rfl (by omega)) rfl rfl rfl ?_
  refine WL_is (X_pick_t rfl rfl rfl) rfl rfl rfl ?_
  refine WL_is (X_assign rfl rfl) rfl rfl rfl ?_
  (repeat (first | refine WL_nil ?_ | refine Then_normal ?_ | refine W_ret ?_))
  refine Body_end rfl rfl rfl (SubR.none _) ?_
  rfl
end Go.Proofs.Ythcolbdlalpcjaa
