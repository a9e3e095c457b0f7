/- Directories: one name put, found, taken (alive), and what is more than a statement looks at. -/
import Derived.Test.YtgpanbmjmpondaaDirT
namespace Go.Proofs.Ytgpanbmjmpondaa
set_option maxRecDepth 4000
open Go Go.Par PH
theorem may_nms {d : Dr} (h : mayD d = true) : nmsOk d := fun e he => by
  by_cases h0 : e.2 = slo0
  · rw [h0]; exact Nat.zero_le _
  · have hm : e ∈ allL d := by unfold allL neL; rw [List.mem_filter]; exact ⟨he, by simpa using h0⟩
    simp only [mayD, goodL, Bool.and_eq_true, List.all_eq_true] at h
    have := h.2.1 e hm
    simp only [okS, Bool.and_eq_true, decide_eq_true_eq] at this
    have hc := this.2.1
    unfold checkE at hc
    split at hc
    · omega
    · split at hc
      · omega
      · split at hc
        · omega
        · omega
def sa : Slo := ⟨3, 1, [97]⟩
def da : Dr := ⟨[], [], [], [⟨0, sa :: List.replicate 9 slo0⟩]⟩
def dz : Dr := ⟨[], [], [], [⟨0, List.replicate 10 slo0⟩]⟩
instance : DecidableEq Chu := fun a b => decidable_of_iff (a.blk = b.blk ∧ a.sl = b.sl) (by cases a; cases b; simp)
instance : DecidableEq Dr := fun a b => decidable_of_iff (a.b0 = b.b0 ∧ a.b1 = b.b1 ∧ a.b2 = b.b2 ∧ a.b3 = b.b3) (by cases a; cases b; simp)
theorem al1 : putR dr0 sa = (da, 0) := of_decide_eq_true (by kernel_rfl)
theorem al2 : bucketL [97] = 3 := of_decide_eq_true (by kernel_rfl)
theorem al3 : findR da [97] = (⟨3, 0, 0⟩, sa, 0) := of_decide_eq_true (by kernel_rfl)
theorem al4 : listR da 0 9 = ([(⟨3, 0, 0⟩, sa)], 0) := of_decide_eq_true (by kernel_rfl)
theorem al5 : putR da sa = (dr0, 8) := of_decide_eq_true (by kernel_rfl)
theorem al6 : takeR da [98] = (dr0, 3) := of_decide_eq_true (by kernel_rfl)
theorem al7 : takeR da [97] = (dz, 0) := of_decide_eq_true (by kernel_rfl)
theorem al8 : (allL da).length = 1 := of_decide_eq_true (by kernel_rfl)
theorem al9 : (allL dz).length = 0 := of_decide_eq_true (by kernel_rfl)
theorem al10 : mayD da = true := of_decide_eq_true (by kernel_rfl)
theorem al11 : mayD dz = true := of_decide_eq_true (by kernel_rfl)
theorem al12 : mayD dr0 = true := of_decide_eq_true (by kernel_rfl)
theorem mono1 {d : Dr} {k : Nat} (h : maxR d ≤ k) (hk : k ≤ 1000000) : maxR d ≤ 1000000 := Nat.le_trans h hk
theorem may_big {d : Dr} (h : mayD d = true) : maxR d ≤ 1000000 := mono1 (may_le h) (by decide)
attribute [local irreducible] W WL Does Exec Body Then inBlk RG WR row obj pblk
set_option maxHeartbeats 4000000 in
theorem alive_fn (h : PH) : Does Try.prog 8 [] [] h (Ret fun r _ _ => r = .bool true) := by
  refine Does_of_W Try.func8 rfl (n := 122) rfl rfl (by simp only [argE] <;> rfl) ?_
  (repeat (first | refine W_seq ?_))
  refine W_region rfl ?_
  refine WL_is (X_assign rfl rfl) rfl rfl rfl ?_
  (repeat (first | refine WL_nil ?_ | refine Then_normal ?_ | refine W_seq ?_))
  skip
  refine W_region rfl ?_
  refine WL_is (X_build rfl rfl rfl) rfl rfl rfl ?_
  (refine WL_alloc rfl rfl rfl rfl rfl rfl ?_; intro b_)
  refine WL_store rfl rfl rfl (by exact idx0) rfl rfl rfl rfl rfl rfl rfl rfl rfl ?_
  (repeat (first | refine WL_nil ?_ | refine Then_normal ?_ | refine W_seq ?_))
  generalize b_ = b1
  skip
  refine W_region rfl ?_
  refine WL_is (X_build rfl rfl rfl) rfl rfl rfl ?_
  refine WL_is (X_loadA rfl rfl (by exact idx0) rfl rfl rfl) rfl rfl rfl ?_
  have p1 := put_fn h _ dr0 sa DrV.nil (may_big al12) (may_nms al12) (by decide)
  rw [al1] at p1
  refine WL_call rfl rfl rfl Try.func22 rfl rfl rfl rfl p1 ?_
  rintro _ _ H1 L1 ⟨⟨w1, rfl, hw1⟩, rfl⟩
  simp only [List.nil_append]
  dsimp only at hw1
  have g1 := hw1
  obtain ⟨y0, y1, y2, y3, rfl, q0, q1, q2, q3⟩ := g1
  obtain ⟨_, _, rfl⟩ := q0.shape
  obtain ⟨_, _, rfl⟩ := q1.shape
  obtain ⟨_, _, rfl⟩ := q2.shape
  obtain ⟨_, _, rfl⟩ := q3.shape
  have cb := bucket_ref H1 [97] (by decide)
  rw [al2] at cb
  have cf := find_fn H1 _ da [97] hw1 (may_big al10) (may_nms al10)
  rw [al3] at cf
  unfold findV spoV sloV at cf
  dsimp only at cf
  unfold drV at cf ⊢
  refine WL_is (X_move rfl rfl) rfl rfl rfl ?_
  refine WL_is (X_extract rfl rfl rfl) rfl rfl rfl ?_
  refine WL_is (X_extract rfl rfl rfl) rfl rfl rfl ?_
  (refine WL_alloc rfl rfl rfl rfl rfl rfl ?_; intro b_)
  refine WL_store rfl rfl rfl (by exact idx0) rfl rfl rfl rfl rfl rfl rfl rfl rfl ?_
  refine WL_is (X_assign rfl rfl) rfl rfl rfl ?_
  (repeat (first | refine WL_nil ?_ | refine Then_normal ?_ | refine W_seq ?_))
  generalize b_ = b2
  skip
  refine W_region rfl ?_
  refine WL_is (X_callv rfl rfl rfl Try.func29 rfl (by assumption)) rfl rfl rfl ?_
  refine WL_is (X_assign rfl rfl) rfl rfl rfl ?_
  (repeat (first | refine WL_nil ?_ | refine Then_normal ?_ | refine W_seq ?_))
  skip
  refine W_region rfl ?_
  refine WL_is (X_loadA rfl rfl (by exact idx0) rfl rfl rfl) rfl rfl rfl ?_
  refine WL_is (X_callv rfl rfl rfl Try.func11 rfl (by assumption)) rfl rfl rfl ?_
  refine WL_is (X_move rfl rfl) rfl rfl rfl ?_
  refine WL_is (X_extract rfl rfl rfl) rfl rfl rfl ?_
  refine WL_is (X_extract rfl rfl rfl) rfl rfl rfl ?_
  refine WL_is (X_extract rfl rfl rfl) rfl rfl rfl ?_
  (refine WL_alloc rfl rfl rfl rfl rfl rfl ?_; intro b_)
  (refine WL_alloc rfl rfl rfl rfl rfl rfl ?_; intro b_)
  refine WL_store rfl rfl rfl (by exact idx1) rfl rfl rfl rfl rfl rfl rfl rfl rfl ?_
  refine WL_store rfl rfl rfl (by exact idx0) rfl rfl rfl rfl rfl rfl rfl rfl rfl ?_
  refine WL_is (X_assign rfl rfl) rfl rfl rfl ?_
  (repeat (first | refine WL_nil ?_ | refine Then_normal ?_ | refine W_seq ?_))
  generalize b_ = b6
  skip
  refine W_region rfl ?_
  refine WL_is (X_loadA rfl rfl (by exact idx2) rfl rfl rfl) rfl rfl rfl ?_
  have p2 := list_fn H1 _ da 0 9 hw1 (may_big al10) (may_nms al10)
  rw [al4] at p2
  refine WL_call rfl rfl rfl Try.func13 rfl rfl rfl rfl p2 ?_
  rintro _ _ H2 L2 ⟨⟨lv, rfl, hlv⟩, rfl⟩
  simp only [List.nil_append]
  dsimp only at hlv
  obtain ⟨la, lc, rfl⟩ := hlv.shape
  have hw2 := hw1.mono L2
  refine WL_is (X_move rfl rfl) rfl rfl rfl ?_
  refine WL_is (X_extract rfl rfl rfl) rfl rfl rfl ?_
  refine WL_is (X_extract rfl rfl rfl) rfl rfl rfl ?_
  refine WL_is (X_assign rfl rfl) rfl rfl rfl ?_
  refine WL_is (X_assign rfl rfl) rfl rfl rfl ?_
  (repeat (first | refine WL_nil ?_ | refine Then_normal ?_ | refine W_seq ?_))
  skip
  refine W_region rfl ?_
  refine WL_is (X_loadA rfl rfl (by exact idx2) rfl rfl rfl) rfl rfl rfl ?_
  refine WL_is (X_loadA rfl rfl (by exact idx3) rfl rfl rfl) rfl rfl rfl ?_
  have p3 := put_fn H2 _ da sa hw2 (may_big al10) (may_nms al10) (by decide)
  rw [al5] at p3
  refine WL_call rfl rfl rfl Try.func22 rfl rfl rfl rfl p3 ?_
  rintro _ _ H3 L3 ⟨⟨w3, rfl, hw3⟩, rfl⟩
  simp only [List.nil_append]
  dsimp only at hw3
  have hw4 := hw2.mono L3
  obtain ⟨y0, y1, y2, y3, rfl, r0, r1, r2, r3⟩ := hw3
  obtain ⟨_, _, rfl⟩ := r0.shape
  obtain ⟨_, _, rfl⟩ := r1.shape
  obtain ⟨_, _, rfl⟩ := r2.shape
  obtain ⟨_, _, rfl⟩ := r3.shape
  unfold drV
  refine WL_is (X_move rfl rfl) rfl rfl rfl ?_
  refine WL_is (X_extract rfl rfl rfl) rfl rfl rfl ?_
  refine WL_is (X_extract rfl rfl rfl) rfl rfl rfl ?_
  (refine WL_alloc rfl rfl rfl rfl rfl rfl ?_; intro b_)
  refine WL_store rfl rfl rfl (by exact idx0) rfl rfl rfl rfl rfl rfl rfl rfl rfl ?_
  refine WL_is (X_assign rfl rfl) rfl rfl rfl ?_
  (repeat (first | refine WL_nil ?_ | refine Then_normal ?_ | refine W_seq ?_))
  skip
  refine W_region rfl ?_
  refine WL_is (X_loadA rfl rfl (by exact idx3) rfl rfl rfl) rfl rfl rfl ?_
  have p4 := take_fn H3 _ da [98] hw4 (may_big al10) (may_nms al10)
  rw [al6] at p4
  refine WL_call rfl rfl rfl Try.func23 rfl rfl rfl rfl p4 ?_
  rintro _ _ H4 L4 ⟨⟨w4, rfl, hw3⟩, rfl⟩
  simp only [List.nil_append]
  dsimp only at hw3
  have hw5 := hw4.mono L4
  obtain ⟨y0, y1, y2, y3, rfl, r0, r1, r2, r3⟩ := hw3
  obtain ⟨_, _, rfl⟩ := r0.shape
  obtain ⟨_, _, rfl⟩ := r1.shape
  obtain ⟨_, _, rfl⟩ := r2.shape
  obtain ⟨_, _, rfl⟩ := r3.shape
  unfold drV
  refine WL_is (X_move rfl rfl) rfl rfl rfl ?_
  refine WL_is (X_extract rfl rfl rfl) rfl rfl rfl ?_
  refine WL_is (X_extract rfl rfl rfl) rfl rfl rfl ?_
  (refine WL_alloc rfl rfl rfl rfl rfl rfl ?_; intro b_)
  refine WL_store rfl rfl rfl (by exact idx0) rfl rfl rfl rfl rfl rfl rfl rfl rfl ?_
  refine WL_is (X_assign rfl rfl) rfl rfl rfl ?_
  (repeat (first | refine WL_nil ?_ | refine Then_normal ?_ | refine W_seq ?_))
  skip
  refine W_region rfl ?_
  refine WL_is (X_loadA rfl rfl (by exact idx4) rfl rfl rfl) rfl rfl rfl ?_
  have p5 := take_fn H4 _ da [97] hw5 (may_big al10) (may_nms al10)
  rw [al7] at p5
  refine WL_call rfl rfl rfl Try.func23 rfl rfl rfl rfl p5 ?_
  rintro _ _ H5 L5 ⟨⟨w5, rfl, hw3⟩, rfl⟩
  simp only [List.nil_append]
  dsimp only at hw3
  have hw6 := hw5.mono L5
  have cz := count_fn H5 _ dz hw3 (may_big al11)
  rw [al9] at cz
  have ca := count_fn H5 _ da hw6 (may_big al10)
  rw [al8] at ca
  have ck := check_fn H5 _ da hw6 (may_big al10) (may_nms al10)
  rw [checkD, al10, if_pos rfl] at ck
  obtain ⟨y0, y1, y2, y3, rfl, r0, r1, r2, r3⟩ := hw3
  obtain ⟨_, _, rfl⟩ := r0.shape
  obtain ⟨_, _, rfl⟩ := r1.shape
  obtain ⟨_, _, rfl⟩ := r2.shape
  obtain ⟨_, _, rfl⟩ := r3.shape
  have hl1 : ((1 : Nat) : Int) = 1 := rfl
  have hl0 : ((0 : Nat) : Int) = 0 := rfl
  have hb3 : ((da.b3.length : Nat) : Int) = 1 := rfl
  have hll : (([((⟨3, 0, 0⟩ : Spo), sa)].length : Nat) : Int) = 1 := rfl
  have hlv5 := (((hlv.mono L3).mono L4).mono L5)
  unfold drV at cz ca ck ⊢
  refine WL_is (X_move rfl rfl) rfl rfl rfl ?_
  refine WL_is (X_extract rfl rfl rfl) rfl rfl rfl ?_
  refine WL_is (X_extract rfl rfl rfl) rfl rfl rfl ?_
  (refine WL_alloc rfl rfl rfl rfl rfl rfl ?_; intro b_)
  refine WL_store rfl rfl rfl (by exact idx0) rfl rfl rfl rfl rfl rfl rfl rfl rfl ?_
  refine WL_is (X_assign rfl rfl) rfl rfl rfl ?_
  (repeat (first | refine WL_nil ?_ | refine Then_normal ?_ | refine W_seq ?_))
  skip
  refine W_region rfl ?_
  refine WL_is (X_move rfl rfl) rfl rfl rfl ?_
  refine WL_is (X_eql_t rfl rfl rfl (by omega)) rfl rfl rfl ?_
  refine WL_is (X_move rfl rfl) rfl rfl rfl ?_
  refine WL_is (X_move rfl rfl) rfl rfl rfl ?_
  refine WL_is (X_fieldAddr rfl rfl rfl (by simp only [Nat.zero_add] <;> rfl)) rfl rfl rfl ?_
  refine WL_is (X_index_arr (sz := 1) rfl rfl rfl rfl rfl (by omega) (by omega) (by simp only [Nat.zero_add, Int.reduceToNat, Nat.mul_one] <;> rfl)) rfl rfl rfl ?_
  refine WL_is (X_load1 rfl rfl (by exact idx5) rfl rfl) rfl rfl rfl ?_
  refine WL_is (X_len rfl rfl rfl) rfl rfl rfl ?_
  refine WL_is (X_eql_t rfl rfl rfl (by omega)) rfl rfl rfl ?_
  refine WL_is (X_pick_t rfl rfl rfl) rfl rfl rfl ?_
  refine WL_is (X_move rfl rfl) rfl rfl rfl ?_
  refine WL_is (X_loadA rfl rfl (by exact idx5) rfl rfl rfl) rfl rfl rfl ?_
  refine WL_is (X_callv rfl rfl rfl Try.func14 rfl (by assumption)) rfl rfl rfl ?_
  refine WL_is (X_eql_t rfl rfl rfl (by omega)) rfl rfl rfl ?_
  refine WL_is (X_pick_t rfl rfl rfl) rfl rfl rfl ?_
  refine WL_is (X_move rfl rfl) rfl rfl rfl ?_
  refine WL_is (X_move rfl rfl) rfl rfl rfl ?_
  refine WL_is (X_eql_t rfl rfl rfl (by omega)) rfl rfl rfl ?_
  refine WL_is (X_pick_t rfl rfl rfl) rfl rfl rfl ?_
  refine WL_is (X_move rfl rfl) rfl rfl rfl ?_
  refine WL_is (X_loadA rfl rfl (by exact idx3) rfl rfl rfl) rfl rfl rfl ?_
  refine WL_is (X_loadA rfl rfl (by exact idx6) rfl rfl rfl) rfl rfl rfl ?_
  refine WL_is (X_eqA 8 heldOk guardOk rfl rfl rfl rfl rfl rfl (eqSlo_t (rfl : sa = sa))) rfl rfl rfl ?_
  refine WL_is (X_pick_t rfl rfl rfl) rfl rfl rfl ?_
  refine WL_is (X_move rfl rfl) rfl rfl rfl ?_
  refine WL_is (X_loadA rfl rfl (by exact idx4) rfl rfl rfl) rfl rfl rfl ?_
  refine WL_is (X_move rfl rfl) rfl rfl rfl ?_
  refine WL_is (X_build rfl rfl rfl) rfl rfl rfl ?_
  refine WL_is (X_eqA 8 heldOk guardOk rfl rfl rfl rfl rfl rfl rfl) rfl rfl rfl ?_
  refine WL_is (X_pick_t rfl rfl rfl) rfl rfl rfl ?_
  refine WL_is (X_move rfl rfl) rfl rfl rfl ?_
  refine WL_is (X_move rfl rfl) rfl rfl rfl ?_
  refine WL_is (X_eql_t rfl rfl rfl (by omega)) rfl rfl rfl ?_
  refine WL_is (X_pick_t rfl rfl rfl) rfl rfl rfl ?_
  refine WL_is (X_move rfl rfl) rfl rfl rfl ?_
  refine WL_is (X_move rfl rfl) rfl rfl rfl ?_
  refine WL_is (X_len_sl rfl rfl rfl (by assumption)) rfl rfl rfl ?_
  refine WL_is (X_eql_t rfl rfl rfl (by omega)) rfl rfl rfl ?_
  refine WL_is (X_pick_t rfl rfl rfl) rfl rfl rfl ?_
  refine WL_is (X_move rfl rfl) rfl rfl rfl ?_
  refine WL_is (X_move rfl rfl) rfl rfl rfl ?_
  (refine WL_index_sl rfl rfl rfl rfl rfl (by assumption) (by omega) (by omega) rfl rfl rfl ?_; intro p_ hp_)
  (refine WL_fieldAddr_at rfl rfl (by assumption) rfl rfl rfl rfl ?_; intro p_ hp_)
  refine WL_is (X_load1_at rfl rfl (by assumption) rfl rfl) rfl rfl rfl ?_
  refine WL_is (X_move rfl rfl) rfl rfl rfl ?_
  refine WL_is (X_mulW rfl rfl rfl (by refine wrapL (by simp only [Int.reduceMul] <;> rfl) ?_; decide)) rfl rfl rfl ?_
  refine WL_is (X_addW rfl rfl rfl (by refine wrapL (by simp only [Int.reduceAdd] <;> rfl) ?_; decide)) rfl rfl rfl ?_
  refine WL_is (X_eql_t rfl rfl rfl (by rfl)) rfl rfl rfl ?_
  refine WL_is (X_pick_t rfl rfl rfl) rfl rfl rfl ?_
  refine WL_is (X_move rfl rfl) rfl rfl rfl ?_
  refine WL_is (X_move rfl rfl) rfl rfl rfl ?_
  refine WL_is (X_eql_t rfl rfl rfl (by omega)) rfl rfl rfl ?_
  refine WL_is (X_pick_t rfl rfl rfl) rfl rfl rfl ?_
  refine WL_is (X_move rfl rfl) rfl rfl rfl ?_
  refine WL_is (X_move rfl rfl) rfl rfl rfl ?_
  refine WL_is (X_eql_t rfl rfl rfl (by omega)) rfl rfl rfl ?_
  refine WL_is (X_pick_t rfl rfl rfl) rfl rfl rfl ?_
  refine WL_is (X_move rfl rfl) rfl rfl rfl ?_
  refine WL_is (X_move rfl rfl) rfl rfl rfl ?_
  refine WL_is (X_eql_t rfl rfl rfl (by omega)) rfl rfl rfl ?_
  refine WL_is (X_pick_t rfl rfl rfl) rfl rfl rfl ?_
  refine WL_is (X_move rfl rfl) rfl rfl rfl ?_
  refine WL_is (X_loadA rfl rfl (by exact idx0) rfl rfl rfl) rfl rfl rfl ?_
  refine WL_is (X_callv rfl rfl rfl Try.func14 rfl (by assumption)) rfl rfl rfl ?_
  refine WL_is (X_eql_t rfl rfl rfl (by omega)) rfl rfl rfl ?_
  refine WL_is (X_pick_t rfl rfl rfl) rfl rfl rfl ?_
  refine WL_is (X_move rfl rfl) rfl rfl rfl ?_
  refine WL_is (X_loadA rfl rfl (by exact idx5) rfl rfl rfl) rfl rfl rfl ?_
  refine WL_is (X_callv rfl rfl rfl Try.func10 rfl (by assumption)) rfl rfl rfl ?_
  refine WL_is (X_eql_t rfl rfl rfl (by omega)) rfl rfl rfl ?_
  refine WL_is (X_pick_t rfl rfl rfl) rfl rfl rfl ?_
  refine WL_is (X_assign rfl rfl) rfl rfl rfl ?_
  (repeat (first | refine WL_nil ?_ | refine Then_normal ?_ | refine W_ret ?_))
  refine Body_end rfl rfl rfl (SubR.none _) ?_
  rfl
end Go.Proofs.Ytgpanbmjmpondaa
