/- Names and paths: the laws on checks, splits, joins. -/
import Derived.Test.YthcolbdlalpcjaaNameM
namespace Go.Proofs.Ythcolbdlalpcjaa
set_option maxRecDepth 4000
open Go Go.Par PH
theorem splitR_len {l : Bs} (hl : l.length ≤ 2000) : (splitR l).ps.length ≤ 1000000 ∧ sumT (splitR l).ps ≤ 10000000 := by
  unfold splitR
  have h1 := parts_len l []
  have h2 := sum_le l []
  simp only [List.length_nil, Nat.zero_add] at h1 h2
  split
  · exact ⟨by change (partsG [] l).length ≤ _; omega, by change sumT (partsG [] l) ≤ _; omega⟩
  · exact ⟨by simp [pth0], by simp [pth0, sumT]⟩
theorem same_self (p : Pth) : (decide (p.ab = p.ab) && decide (p.dr = p.dr) && decide (p.ps = p.ps)) = true := by simp
attribute [local irreducible] W WL Does Exec Body Then inBlk RG WR row obj pblk
set_option maxHeartbeats 1000000 in
theorem checks_law (h : PH) (s : ByteArray) : Does Try.prog 3 [.string s] [] h (Ret fun r _ _ => r = .bool true) := by
  have hal := aliveN_fn h
  rw [mkB_of s]
  generalize s.data.toList = l
  have hsz := mkB_size l
  refine Does_of_W Try.func3 rfl (n := 29) rfl rfl (by simp only [argE] <;> rfl) ?_
  by_cases h1 : ((mkB l).size : Int) > 1024
  · (repeat (first | refine W_seq ?_))
    skip
    refine W_region rfl ?_
    refine WL_is (X_assign rfl rfl) rfl rfl rfl ?_
    (repeat (first | refine WL_nil ?_ | refine Then_normal ?_ | refine W_seq ?_))
    skip
    refine W_region rfl ?_
    refine WL_is (X_move rfl rfl) rfl rfl rfl ?_
    refine WL_is (X_len_str rfl rfl rfl) rfl rfl rfl ?_
    refine WL_is (X_gtr_t rfl rfl rfl (by omega)) rfl rfl rfl ?_
    (repeat (first | refine WL_nil ?_ | refine Then_normal ?_ | refine W_seq ?_ | refine W_true rfl ?_))
    skip
    refine W_region rfl ?_
    refine WL_is (X_callv rfl rfl rfl Try.func8 rfl (by assumption)) rfl rfl rfl ?_
    refine WL_is (X_assign rfl rfl) rfl rfl rfl ?_
    (repeat (first | refine WL_nil ?_ | refine Then_normal ?_ | refine W_ret ?_ | refine Then_ret ?_))
    refine Body_end rfl rfl rfl (SubR.none _) ?_
    rfl
  · have c1 := checkB_fn h l
    have c2 := checkB_ref h l (by omega)
    have c3 := dots_fn h l
    have c4 := dots_ref h l
    have c5 := bucket_fn h l (by omega)
    have c6 := bucket_ref h l (by omega)
    have kb : (dotsB l == dotsB l) = true := beq_self_eq_true _
    (repeat (first | refine W_seq ?_))
    skip
    refine W_region rfl ?_
    refine WL_is (X_assign rfl rfl) rfl rfl rfl ?_
    (repeat (first | refine WL_nil ?_ | refine Then_normal ?_ | refine W_seq ?_))
    skip
    refine W_region rfl ?_
    refine WL_is (X_move rfl rfl) rfl rfl rfl ?_
    refine WL_is (X_len_str rfl rfl rfl) rfl rfl rfl ?_
    refine WL_is (X_gtr_f rfl rfl rfl (by omega)) rfl rfl rfl ?_
    (repeat (first | refine WL_nil ?_ | refine Then_normal ?_ | refine W_seq ?_ | refine W_skip ?_ | refine W_false rfl ?_))
    skip
    refine W_region rfl ?_
    refine WL_is (X_move rfl rfl) rfl rfl rfl ?_
    refine WL_is (X_callv rfl rfl rfl Try.func9 rfl (by assumption)) rfl rfl rfl ?_
    refine WL_is (X_move rfl rfl) rfl rfl rfl ?_
    refine WL_is (X_callv rfl rfl rfl Try.func10 rfl (by assumption)) rfl rfl rfl ?_
    refine WL_is (X_eql_t rfl rfl rfl (by omega)) rfl rfl rfl ?_
    refine WL_is (X_move rfl rfl) rfl rfl rfl ?_
    refine WL_is (X_move rfl rfl) rfl rfl rfl ?_
    refine WL_is (X_callv rfl rfl rfl Try.func11 rfl (by assumption)) rfl rfl rfl ?_
    refine WL_is (X_move rfl rfl) rfl rfl rfl ?_
    refine WL_is (X_callv rfl rfl rfl Try.func12 rfl (by assumption)) rfl rfl rfl ?_
    refine WL_is (X_eqB_t rfl rfl rfl rfl (by rfl)) rfl rfl rfl ?_
    refine WL_is (X_pick_t rfl rfl rfl) rfl rfl rfl ?_
    refine WL_is (X_move rfl rfl) rfl rfl rfl ?_
    refine WL_is (X_move rfl rfl) rfl rfl rfl ?_
    refine WL_is (X_callv rfl rfl rfl Try.func13 rfl (by assumption)) rfl rfl rfl ?_
    refine WL_is (X_move rfl rfl) rfl rfl rfl ?_
    refine WL_is (X_callv rfl rfl rfl Try.func14 rfl (by assumption)) rfl rfl rfl ?_
    refine WL_is (X_eql_t rfl rfl rfl (by omega)) rfl rfl rfl ?_
    refine WL_is (X_pick_t rfl rfl rfl) rfl rfl rfl ?_
    refine WL_is (X_move rfl rfl) rfl rfl rfl ?_
    refine WL_is (X_callv rfl rfl rfl Try.func8 rfl (by assumption)) rfl rfl rfl ?_
    refine WL_is (X_pick_t rfl rfl rfl) rfl rfl rfl ?_
    refine WL_is (X_assign rfl rfl) rfl rfl rfl ?_
    (repeat (first | refine WL_nil ?_ | refine Then_normal ?_ | refine W_ret ?_))
    refine Body_end rfl rfl rfl (SubR.none _) ?_
    rfl
set_option maxHeartbeats 1000000 in
theorem splits_law (h : PH) (s : ByteArray) : Does Try.prog 4 [.string s] [] h (Ret fun r _ _ => r = .bool true) := by
  rw [mkB_of s]
  generalize s.data.toList = l
  have hsz := mkB_size l
  refine Does_of_W Try.func4 rfl (n := 32) rfl rfl (by simp only [argE] <;> rfl) ?_
  by_cases h1 : ((mkB l).size : Int) > 1024
  · have hal := aliveN_fn h
    (repeat (first | refine W_seq ?_))
    skip
    refine W_region rfl ?_
    refine WL_is (X_assign rfl rfl) rfl rfl rfl ?_
    (repeat (first | refine WL_nil ?_ | refine Then_normal ?_ | refine W_seq ?_))
    skip
    refine W_region rfl ?_
    refine WL_is (X_move rfl rfl) rfl rfl rfl ?_
    refine WL_is (X_len_str rfl rfl rfl) rfl rfl rfl ?_
    refine WL_is (X_gtr_t rfl rfl rfl (by omega)) rfl rfl rfl ?_
    (repeat (first | refine WL_nil ?_ | refine Then_normal ?_ | refine W_seq ?_ | refine W_true rfl ?_))
    skip
    refine W_region rfl ?_
    refine WL_is (X_callv rfl rfl rfl Try.func8 rfl (by assumption)) rfl rfl rfl ?_
    refine WL_is (X_assign rfl rfl) rfl rfl rfl ?_
    (repeat (first | refine WL_nil ?_ | refine Then_normal ?_ | refine W_ret ?_ | refine Then_ret ?_))
    refine Body_end rfl rfl rfl (SubR.none _) ?_
    rfl
  · have hrl := splitR_len (l := l) (by omega)
    (repeat (first | refine W_seq ?_))
    skip
    refine W_region rfl ?_
    refine WL_is (X_assign rfl rfl) rfl rfl rfl ?_
    (repeat (first | refine WL_nil ?_ | refine Then_normal ?_ | refine W_seq ?_))
    skip
    refine W_region rfl ?_
    refine WL_is (X_move rfl rfl) rfl rfl rfl ?_
    refine WL_is (X_len_str rfl rfl rfl) rfl rfl rfl ?_
    refine WL_is (X_gtr_f rfl rfl rfl (by omega)) rfl rfl rfl ?_
    (repeat (first | refine WL_nil ?_ | refine Then_normal ?_ | refine W_seq ?_ | refine W_skip ?_ | refine W_false rfl ?_))
    skip
    refine W_region rfl ?_
    refine WL_is (X_move rfl rfl) rfl rfl rfl ?_
    refine WL_call rfl rfl rfl Try.func15 rfl rfl rfl rfl (split_fn h l (by omega)) ?_
    rintro _ _ H1 M1 ⟨⟨w1, rfl, p1⟩, rfl⟩
    obtain ⟨a1, c1, rfl, s1⟩ := p1.shape
    simp only [List.nil_append]
    refine WL_is (X_move rfl rfl) rfl rfl rfl ?_
    refine WL_is (X_extract rfl rfl rfl) rfl rfl rfl ?_
    refine WL_is (X_extract rfl rfl rfl) rfl rfl rfl ?_
    (refine WL_alloc rfl rfl rfl rfl rfl rfl ?_; intro b_)
    refine WL_store rfl rfl rfl (by exact idx0) rfl rfl rfl rfl rfl rfl rfl rfl rfl ?_
    refine WL_is (X_assign rfl rfl) rfl rfl rfl ?_
    (repeat (first | refine WL_nil ?_ | refine Then_normal ?_ | refine W_seq ?_))
    generalize b_ = pb
    skip
    refine W_region rfl ?_
    refine WL_is (X_move rfl rfl) rfl rfl rfl ?_
    refine WL_call rfl rfl rfl Try.func16 rfl rfl rfl rfl (split_ref H1 l (by omega)) ?_
    rintro _ _ H2 M2 ⟨⟨w2, rfl, p2⟩, rfl⟩
    obtain ⟨a2, c2, rfl, s2⟩ := p2.shape
    simp only [List.nil_append]
    replace p1 := p1.mono M2
    have hsm := samep_ref H2 _ _ _ _ p1 p2 hrl.1 hrl.1
    rw [same_self] at hsm
    have hal := aliveN_fn H2
    unfold pthV at hsm ⊢
    refine WL_is (X_move rfl rfl) rfl rfl rfl ?_
    refine WL_is (X_extract rfl rfl rfl) rfl rfl rfl ?_
    refine WL_is (X_extract rfl rfl rfl) rfl rfl rfl ?_
    (refine WL_alloc rfl rfl rfl rfl rfl rfl ?_; intro b_)
    refine WL_store rfl rfl rfl (by exact idx0) rfl rfl rfl rfl rfl rfl rfl rfl rfl ?_
    refine WL_is (X_assign rfl rfl) rfl rfl rfl ?_
    (repeat (first | refine WL_nil ?_ | refine Then_normal ?_ | refine W_seq ?_))
    skip
    refine W_region rfl ?_
    refine WL_is (X_loadA rfl rfl (by exact idx1) rfl rfl rfl) rfl rfl rfl ?_
    refine WL_is (X_loadA rfl rfl (by exact idx0) rfl rfl rfl) rfl rfl rfl ?_
    refine WL_is (X_callv rfl rfl rfl Try.func17 rfl (by assumption)) rfl rfl rfl ?_
    refine WL_is (X_move rfl rfl) rfl rfl rfl ?_
    refine WL_is (X_move rfl rfl) rfl rfl rfl ?_
    refine WL_is (X_move rfl rfl) rfl rfl rfl ?_
    refine WL_is (X_eql_t rfl rfl rfl (by omega)) rfl rfl rfl ?_
    refine WL_is (X_pick_t rfl rfl rfl) rfl rfl rfl ?_
    refine WL_is (X_move rfl rfl) rfl rfl rfl ?_
    refine WL_is (X_callv rfl rfl rfl Try.func8 rfl (by assumption)) rfl rfl rfl ?_
    refine WL_is (X_pick_t rfl rfl rfl) rfl rfl rfl ?_
    refine WL_is (X_assign rfl rfl) rfl rfl rfl ?_
    (repeat (first | refine WL_nil ?_ | refine Then_normal ?_ | refine W_ret ?_))
    refine Body_end rfl rfl rfl (SubR.none _) ?_
    rfl
end Go.Proofs.Ythcolbdlalpcjaa
