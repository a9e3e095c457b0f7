/- Files: words and their bytes. -/
import Derived.Test.YtoocbfpomamdeaaFileE
namespace Go.Proofs.Ytoocbfpomamdeaa
set_option maxRecDepth 4000
open Go Go.Par PH
def ofB (B : Nat → Nat) : Nat → Nat
  | 0 => 0
  | k + 1 => ofB B k + B k * 256 ^ k
theorem ofB_lt {B : Nat → Nat} (hB : ∀ j, B j < 256) : ∀ k, ofB B k < 256 ^ k
  | 0 => by simp [ofB]
  | k + 1 => by
    have h1 := ofB_lt hB k
    have h2 : B k * 256 ^ k ≤ 255 * 256 ^ k := Nat.mul_le_mul_right _ (by have := hB k; omega)
    simp only [ofB]
    rw [Nat.pow_succ]; omega
theorem ofB_div {B : Nat → Nat} (hB : ∀ j, B j < 256) {j : Nat} : ∀ {k : Nat}, j < k → ofB B k / 256 ^ j % 256 = B j
  | 0, h => by omega
  | k + 1, h => by
    simp only [ofB]
    by_cases e : j = k
    · subst e
      rw [Nat.add_mul_div_right _ _ (Nat.pow_pos (by decide)), Nat.div_eq_of_lt (ofB_lt hB j), Nat.zero_add, Nat.mod_eq_of_lt (hB j)]
    · have hjk : j < k := by omega
      have e1 : B k * 256 ^ k = (B k * 256 ^ (k - j - 1) * 256) * 256 ^ j := by
        rw [Nat.mul_assoc, Nat.mul_assoc, ← Nat.pow_succ', ← Nat.pow_add]; congr 2; omega
      rw [e1, Nat.add_mul_div_right _ _ (Nat.pow_pos (by decide)), Nat.add_mul_mod_self_right, ofB_div hB hjk]
theorem ofB_bytes (w : Nat) : ∀ k, ofB (fun j => w / 256 ^ j % 256) k = w % 256 ^ k
  | 0 => by simp [ofB, Nat.mod_one]
  | k + 1 => by
    simp only [ofB]
    rw [ofB_bytes w k, Nat.pow_succ, Nat.mod_mul, Nat.mul_comm (256 ^ k)]
theorem ofB_congr {B C : Nat → Nat} : ∀ {k : Nat}, (∀ j, j < k → B j = C j) → ofB B k = ofB C k
  | 0, _ => rfl
  | k + 1, h => by simp only [ofB]; rw [ofB_congr (fun j hj => h j (by omega)), h k (by omega)]
theorem mod_bit (y r : Nat) (hr : r < 8) : y % 256 / 2 ^ r % 2 = y / 2 ^ r % 2 := by
  have h1 := Nat.testBit_mod_two_pow y 8 r
  rw [Nat.testBit_eq_decide_div_mod_eq, Nat.testBit_eq_decide_div_mod_eq, decide_eq_true hr, Bool.true_and] at h1
  have e : (2 : Nat) ^ 8 = 256 := rfl
  rw [e] at h1
  have h2 := Nat.mod_two_eq_zero_or_one (y % 256 / 2 ^ r)
  have h3 := Nat.mod_two_eq_zero_or_one (y / 2 ^ r)
  have h4 : (y % 256 / 2 ^ r % 2 = 1) ↔ (y / 2 ^ r % 2 = 1) := by simpa using h1
  omega
theorem ofB_bit {B : Nat → Nat} (hB : ∀ j, B j < 256) {i : Nat} (hi : i < 64) : ofB B 8 / 2 ^ i % 2 = B (i / 8) / 2 ^ (i % 8) % 2 := by
  have e : (2 : Nat) ^ i = 256 ^ (i / 8) * 2 ^ (i % 8) := by
    rw [show (256 : Nat) = 2 ^ 8 from rfl, ← Nat.pow_mul, ← Nat.pow_add]; congr 1; omega
  rw [e, ← Nat.div_div_eq_div_mul, ← mod_bit _ _ (Nat.mod_lt _ (by decide)), ofB_div hB (by omega)]
def byteN (w j : Nat) : Nat := w / 256 ^ j % 256
theorem byteN_lt (w j : Nat) : byteN w j < 256 := Nat.mod_lt _ (by decide)
/-- A word with one byte in it turned. -/
def updB (B : Nat → Nat) (j c : Nat) : Nat → Nat := fun k => if k = j then c else B k
theorem updB_lt {B : Nat → Nat} {j c : Nat} (hB : ∀ k, B k < 256) (hc : c < 256) : ∀ k, updB B j c k < 256 := fun k => by unfold updB; split; exact hc; exact hB k
theorem two64 : (256 : Nat) ^ 8 = 18446744073709551616 := rfl
/-- Which bit Put lays. -/
theorem put_bit (w j c i : Nat) (hw : w < 18446744073709551616) (hc : c < 256) (hi : i < 64) :
    ofB (updB (byteN w) j c) 8 / 2 ^ i % 2 = if 8 * j ≤ i ∧ i < 8 * j + 8 then c / 2 ^ (i - 8 * j) % 2 else w / 2 ^ i % 2 := by
  rw [ofB_bit (updB_lt (byteN_lt w) hc) hi]
  unfold updB
  by_cases h : 8 * j ≤ i ∧ i < 8 * j + 8
  · rw [if_pos h, if_pos (by omega), show i % 8 = i - 8 * j from by omega]
  · rw [if_neg h, if_neg (by omega)]
    have h1 := ofB_bit (B := byteN w) (byteN_lt w) hi
    have h2 := ofB_bytes w 8
    rw [two64, Nat.mod_eq_of_lt hw] at h2
    rw [← h1]
    have h3 : ofB (byteN w) 8 = w := h2
    rw [h3]
theorem half (T k : Nat) : 2 * (T / 2 ^ (k + 1)) + T / 2 ^ k % 2 = T / 2 ^ k := by
  rw [Nat.pow_succ, ← Nat.div_div_eq_div_mul]; omega
attribute [local irreducible] W WL Does Exec Body Then inBlk RG WR row obj pblk
theorem bit_ref (h : PH) (w i : Nat) (hw : w < 18446744073709551616) (hi : i < 64) : Does Try.prog 30 [.int .u64 (w : Int), .int .i64 (i : Int)] [] h (Ret fun r _ _ => r = .int .u64 ((w / 2 ^ i % 2 : Nat) : Int)) := by
  have h0 : (0 : Int) ≤ (w : Int) / 2 ^ ((i : Int)).toNat := Int.ediv_nonneg (by omega) (Int.le_of_lt (Int.pow_pos (by decide)))
  refine Does_of_W Try.func30 rfl (n := 10) rfl rfl (by simp only [argE, Nat.reduceAdd] <;> rfl) ?_
  (repeat (first | refine W_seq ?_))
  skip
  refine W_region rfl ?_
  refine WL_is (X_assign rfl rfl) rfl rfl rfl ?_
  (repeat (first | refine WL_nil ?_ | refine Then_normal ?_ | refine W_seq ?_))
  skip
  refine W_region rfl ?_
  refine WL_is (X_move rfl rfl) rfl rfl rfl ?_
  refine WL_is (X_move rfl rfl) rfl rfl rfl ?_
  refine WL_is (X_convW rfl rfl rfl rfl (by exact wrap_u64_in (by omega) (by omega))) rfl rfl rfl ?_
  refine WL_is (X_shr rfl rfl rfl (by omega) (by simp [IntKind.bits] <;> omega)) rfl rfl rfl ?_
  refine WL_is (X_rem rfl rfl rfl (by omega) (by omega)) rfl rfl rfl ?_
  refine WL_is (X_assign rfl rfl) rfl rfl rfl ?_
  (repeat (first | refine WL_nil ?_ | refine Then_normal ?_ | refine W_ret ?_))
  refine Body_end rfl rfl rfl (SubR.none _) ?_
  simp
theorem field_ref (h : PH) (j : Nat) (hj : j < 8) : Does Try.prog 29 [.int .i64 (8 * (j : Int)), .int .i64 8] [] h (Ret fun r _ _ => r = .bool true) := by
  refine Does_of_W Try.func29 rfl (n := 25) rfl rfl (by simp only [argE, Nat.reduceAdd] <;> rfl) ?_
  (repeat (first | refine W_seq ?_))
  skip
  refine W_region rfl ?_
  refine WL_is (X_assign rfl rfl) rfl rfl rfl ?_
  (repeat (first | refine WL_nil ?_ | refine Then_normal ?_ | refine W_seq ?_))
  skip
  refine W_region rfl ?_
  refine WL_is (X_move rfl rfl) rfl rfl rfl ?_
  refine WL_is (X_geq_t rfl rfl rfl (by omega)) rfl rfl rfl ?_
  refine WL_is (X_move rfl rfl) rfl rfl rfl ?_
  refine WL_is (X_move rfl rfl) rfl rfl rfl ?_
  refine WL_is (X_leq_t rfl rfl rfl (by omega)) rfl rfl rfl ?_
  refine WL_is (X_pick_t rfl rfl rfl) rfl rfl rfl ?_
  refine WL_is (X_move rfl rfl) rfl rfl rfl ?_
  refine WL_is (X_move rfl rfl) rfl rfl rfl ?_
  refine WL_is (X_geq_t rfl rfl rfl (by omega)) rfl rfl rfl ?_
  refine WL_is (X_pick_t rfl rfl rfl) rfl rfl rfl ?_
  refine WL_is (X_move rfl rfl) rfl rfl rfl ?_
  refine WL_is (X_move rfl rfl) rfl rfl rfl ?_
  refine WL_is (X_leq_t rfl rfl rfl (by omega)) rfl rfl rfl ?_
  refine WL_is (X_pick_t rfl rfl rfl) rfl rfl rfl ?_
  refine WL_is (X_move rfl rfl) rfl rfl rfl ?_
  refine WL_is (X_move rfl rfl) rfl rfl rfl ?_
  refine WL_is (X_move rfl rfl) rfl rfl rfl ?_
  refine WL_is (X_subW rfl rfl rfl (by refine wrapL (by simp only [Int.reduceSub] <;> rfl) ?_; decide)) rfl rfl rfl ?_
  refine WL_is (X_leq_t rfl rfl rfl (by omega)) rfl rfl rfl ?_
  refine WL_is (X_pick_t rfl rfl rfl) rfl rfl rfl ?_
  refine WL_is (X_assign rfl rfl) rfl rfl rfl ?_
  (repeat (first | refine WL_nil ?_ | refine Then_normal ?_ | refine W_ret ?_))
  refine Body_end rfl rfl rfl (SubR.none _) ?_
  rfl
structure WX where
  k : Nat
set_option maxHeartbeats 1000000 in
theorem put_ref (h : PH) (w j c : Nat) (hw : w < 18446744073709551616) (hj : j < 8) (hc : c < 256) : Does Try.prog 23 [.int .u64 (w : Int), .int .i64 (8 * (j : Int)), .int .i64 8, .int .u64 (c : Int)] [] h
    (Ret fun r _ _ => r = .tuple #[.int .u64 ((ofB (updB (byteN w) j c) 8 : Nat) : Int), .int .i64 0]) := by
  have hf := field_ref h j hj
  have hT := ofB_lt (updB_lt (j := j) (byteN_lt w) hc) 8
  rw [two64] at hT
  have hbit := fun i hi => put_bit w j c i hw hc hi
  generalize hTe : ofB (updB (byteN w) j c) 8 = T at hT hbit ⊢
  refine Does_of_W Try.func23 rfl (n := 54) rfl rfl (by simp only [argE, Nat.reduceAdd] <;> rfl) ?_
  (repeat (first | refine W_seq ?_))
  skip
  refine W_region rfl ?_
  refine WL_is (X_assign rfl rfl) rfl rfl rfl ?_
  refine WL_is (X_assign rfl rfl) rfl rfl rfl ?_
  (repeat (first | refine WL_nil ?_ | refine Then_normal ?_ | refine W_seq ?_))
  skip
  refine W_region rfl ?_
  refine WL_is (X_move rfl rfl) rfl rfl rfl ?_
  refine WL_is (X_move rfl rfl) rfl rfl rfl ?_
  refine WL_is (X_callv rfl rfl rfl Try.func29 rfl (by assumption)) rfl rfl rfl ?_
  refine WL_is (X_not rfl rfl) rfl rfl rfl ?_
  (repeat (first | refine WL_nil ?_ | refine Then_normal ?_ | refine W_seq ?_ | refine W_skip ?_ | refine W_false rfl ?_))
  skip
  refine W_region rfl ?_
  refine WL_is (X_move rfl rfl) rfl rfl rfl ?_
  refine WL_is (X_assign rfl rfl) rfl rfl rfl ?_
  (repeat (first | refine WL_nil ?_ | refine Then_normal ?_ | refine W_block ?_))
  refine W_loop (X := Nat) (L := fun k => ⟨[(10, .int .i64 (k : Int)), (0, .int .u64 (w : Int)), (1, .int .i64 (8 * (j : Int))), (2, .int .i64 8), (3, .int .u64 (c : Int))], [], [], h⟩) (p := fun k => 8 ≤ k ∧ k ≤ 64) (μ := fun k => 64 - k) 8 ⟨(by repeat (first | exact SubE_nil | refine SubE_cons rfl ?_)), rfl, SubR.refl _, rfl⟩ ⟨by omega, by omega⟩ ?_
  rintro k ⟨hk, hk2⟩
  by_cases hlt : (k : Int) < 64
  · have hb := bit_ref h c k (by omega) (by omega)
    have h0 : c / 2 ^ k % 2 = 0 := by
      rw [Nat.div_eq_of_lt]; exact Nat.lt_of_lt_of_le hc (Nat.le_trans (by decide) (Nat.pow_le_pow_right (n := 2) (by decide) hk))
    rw [h0] at hb
    (repeat (first | refine W_seq ?_))
    refine W_region rfl ?_
    refine WL_is (X_move rfl rfl) rfl rfl rfl ?_
    refine WL_is (X_lss_t rfl rfl rfl (by omega)) rfl rfl rfl ?_
    (repeat (first | refine WL_nil ?_ | refine Then_normal ?_ | refine W_seq ?_ | refine W_skip ?_ | refine W_block ?_ | refine W_true rfl ?_))
    skip
    refine W_region rfl ?_
    refine WL_is (X_move rfl rfl) rfl rfl rfl ?_
    refine WL_is (X_move rfl rfl) rfl rfl rfl ?_
    refine WL_is (X_callv rfl rfl rfl Try.func30 rfl (by assumption)) rfl rfl rfl ?_
    refine WL_is (X_eql_f rfl rfl rfl (by omega)) rfl rfl rfl ?_
    (repeat (first | refine WL_nil ?_ | refine Then_normal ?_ | refine W_skip ?_ | refine inBlk_normal ?_ | refine W_false rfl ?_))
    skip
    refine W_region rfl ?_
    refine WL_is (X_move rfl rfl) rfl rfl rfl ?_
    refine WL_is (X_addW rfl rfl rfl (by exact wrap_i64_in (by omega) (by omega))) rfl rfl rfl ?_
    refine WL_is (X_assign rfl rfl) rfl rfl rfl ?_
    (repeat (first | refine WL_nil ?_ | refine Then_normal ?_))
    exact ⟨k + 1, ⟨(by repeat (first | exact SubE_nil | refine SubE_cons rfl ?_)), rfl, SubR.refl _, rfl⟩, ⟨by omega, by omega⟩, by omega⟩
  · (repeat (first | refine W_seq ?_))
    refine W_region rfl ?_
    refine WL_is (X_move rfl rfl) rfl rfl rfl ?_
    refine WL_is (X_lss_f rfl rfl rfl (by omega)) rfl rfl rfl ?_
    (repeat (first | refine WL_nil ?_ | refine Then_normal ?_ | refine W_seq ?_ | refine W_exit ?_ | refine Then_exit ?_ | refine inBlk_here ?_ | refine W_false rfl ?_))
    skip
    refine W_region rfl ?_
    refine WL_is (X_assign rfl rfl) rfl rfl rfl ?_
    (repeat (first | refine WL_nil ?_ | refine Then_normal ?_ | refine W_seq ?_))
    skip
    refine W_region rfl ?_
    refine WL_is (X_assign rfl rfl) rfl rfl rfl ?_
    (repeat (first | refine WL_nil ?_ | refine Then_normal ?_ | refine W_block ?_))
    have hT64 : T / 2 ^ 64 = 0 := Nat.div_eq_of_lt (by simpa using hT)
    refine W_loop (X := Nat) (L := fun k => ⟨[(11, .int .u64 ((T / 2 ^ k : Nat) : Int)), (12, .int .i64 ((k : Int) - 1)), (0, .int .u64 (w : Int)), (1, .int .i64 (8 * (j : Int))), (2, .int .i64 8), (3, .int .u64 (c : Int))], [], [], h⟩) (p := fun k => k ≤ 64) (μ := fun k => k) 64 ⟨by rw [hT64]; exact (by repeat (first | exact SubE_nil | refine SubE_cons rfl ?_)), rfl, SubR.refl _, rfl⟩ (Nat.le_refl _) ?_
    intro k hk
    cases k with
    | zero =>
      (repeat (first | refine W_seq ?_))
      refine W_region rfl ?_
      refine WL_is (X_move rfl rfl) rfl rfl rfl ?_
      refine WL_is (X_geq_f rfl rfl rfl (by omega)) rfl rfl rfl ?_
      (repeat (first | refine WL_nil ?_ | refine Then_normal ?_ | refine W_seq ?_ | refine W_exit ?_ | refine Then_exit ?_ | refine inBlk_here ?_ | refine W_false rfl ?_))
      skip
      refine W_region rfl ?_
      refine WL_is (X_move rfl rfl) rfl rfl rfl ?_
      refine WL_is (X_assign rfl rfl) rfl rfl rfl ?_
      refine WL_is (X_assign rfl rfl) rfl rfl rfl ?_
      (repeat (first | refine WL_nil ?_ | refine Then_normal ?_ | refine W_ret ?_))
      refine Body_end rfl rfl rfl (SubR.none _) ?_
      simp
    | succ k =>
      have e1 : ((k + 1 : Nat) : Int) - 1 = (k : Int) := by omega
      have hb := bit_ref h w k hw (by omega)
      have hh := half T k
      have hbk := hbit k (by omega)
      have hle : T / 2 ^ k ≤ T := Nat.div_le_self _ _
      rw [e1]
      by_cases c1 : (k : Int) ≥ 8 * (j : Int)
      · by_cases c2 : (k : Int) < 8 * (j : Int) + 8
        · rw [if_pos (by omega)] at hbk
          have hb2 := bit_ref h c (k - 8 * j) (by omega) (by omega)
          have e2 : ((k - 8 * j : Nat) : Int) = (k : Int) - 8 * (j : Int) := by omega
          rw [e2] at hb2
          generalize c / 2 ^ (k - 8 * j) % 2 = bb at hb2 hbk
          generalize T / 2 ^ (k + 1) = t1 at hh ⊢
          rw [hbk] at hh
          (repeat (first | refine W_seq ?_))
          refine W_region rfl ?_
          refine WL_is (X_move rfl rfl) rfl rfl rfl ?_
          refine WL_is (X_geq_t rfl rfl rfl (by omega)) rfl rfl rfl ?_
          (repeat (first | refine WL_nil ?_ | refine Then_normal ?_ | refine W_seq ?_ | refine W_skip ?_ | refine W_block ?_ | refine W_true rfl ?_))
          skip
          refine W_region rfl ?_
          refine WL_is (X_move rfl rfl) rfl rfl rfl ?_
          refine WL_is (X_move rfl rfl) rfl rfl rfl ?_
          refine WL_is (X_callv rfl rfl rfl Try.func30 rfl (by assumption)) rfl rfl rfl ?_
          refine WL_is (X_assign rfl rfl) rfl rfl rfl ?_
          (repeat (first | refine WL_nil ?_ | refine Then_normal ?_ | refine W_seq ?_))
          skip
          refine W_region rfl ?_
          refine WL_is (X_move rfl rfl) rfl rfl rfl ?_
          refine WL_is (X_move rfl rfl) rfl rfl rfl ?_
          refine WL_is (X_geq_t rfl rfl rfl (by omega)) rfl rfl rfl ?_
          refine WL_is (X_move rfl rfl) rfl rfl rfl ?_
          refine WL_is (X_move rfl rfl) rfl rfl rfl ?_
          refine WL_is (X_move rfl rfl) rfl rfl rfl ?_
          refine WL_is (X_move rfl rfl) rfl rfl rfl ?_
          refine WL_is (X_addW rfl rfl rfl (by exact wrap_i64_in (by omega) (by omega))) rfl rfl rfl ?_
          refine WL_is (X_lss_t rfl rfl rfl (by omega)) rfl rfl rfl ?_
          refine WL_is (X_pick_t rfl rfl rfl) rfl rfl rfl ?_
          (repeat (first | refine WL_nil ?_ | refine Then_normal ?_ | refine W_true rfl ?_))
          skip
          refine W_region rfl ?_
          refine WL_is (X_move rfl rfl) rfl rfl rfl ?_
          refine WL_is (X_move rfl rfl) rfl rfl rfl ?_
          refine WL_is (X_move rfl rfl) rfl rfl rfl ?_
          refine WL_is (X_subW rfl rfl rfl (by exact wrap_i64_in (by omega) (by omega))) rfl rfl rfl ?_
          refine WL_is (X_callv rfl rfl rfl Try.func30 rfl (by assumption)) rfl rfl rfl ?_
          refine WL_is (X_assign rfl rfl) rfl rfl rfl ?_
          (repeat (first | refine WL_nil ?_ | refine Then_normal ?_))
          skip
          refine W_region rfl ?_
          refine WL_is (X_move rfl rfl) rfl rfl rfl ?_
          refine WL_is (X_mulW rfl rfl rfl (by exact wrap_u64_in (by omega) (by omega))) rfl rfl rfl ?_
          refine WL_is (X_move rfl rfl) rfl rfl rfl ?_
          refine WL_is (X_addW rfl rfl rfl (by exact wrap_u64_in (by omega) (by omega))) rfl rfl rfl ?_
          refine WL_is (X_assign rfl rfl) rfl rfl rfl ?_
          (repeat (first | refine WL_nil ?_ | refine Then_normal ?_ | refine inBlk_normal ?_))
          skip
          refine W_region rfl ?_
          refine WL_is (X_move rfl rfl) rfl rfl rfl ?_
          refine WL_is (X_subW rfl rfl rfl (by exact wrap_i64_in (by omega) (by omega))) rfl rfl rfl ?_
          refine WL_is (X_assign rfl rfl) rfl rfl rfl ?_
          (repeat (first | refine WL_nil ?_ | refine Then_normal ?_))
          refine ⟨k, ⟨?_, rfl, SubR.refl _, rfl⟩, by omega, by omega⟩
          rw [← hh]
          simp only [Int.natCast_add, Int.natCast_mul]
          exact (by repeat (first | exact SubE_nil | refine SubE_cons rfl ?_))
        · rw [if_neg (by omega)] at hbk
          generalize w / 2 ^ k % 2 = bb at hb hbk
          generalize T / 2 ^ (k + 1) = t1 at hh ⊢
          rw [hbk] at hh
          (repeat (first | refine W_seq ?_))
          refine W_region rfl ?_
          refine WL_is (X_move rfl rfl) rfl rfl rfl ?_
          refine WL_is (X_geq_t rfl rfl rfl (by omega)) rfl rfl rfl ?_
          (repeat (first | refine WL_nil ?_ | refine Then_normal ?_ | refine W_seq ?_ | refine W_skip ?_ | refine W_block ?_ | refine W_true rfl ?_))
          skip
          refine W_region rfl ?_
          refine WL_is (X_move rfl rfl) rfl rfl rfl ?_
          refine WL_is (X_move rfl rfl) rfl rfl rfl ?_
          refine WL_is (X_callv rfl rfl rfl Try.func30 rfl (by assumption)) rfl rfl rfl ?_
          refine WL_is (X_assign rfl rfl) rfl rfl rfl ?_
          (repeat (first | refine WL_nil ?_ | refine Then_normal ?_ | refine W_seq ?_))
          skip
          refine W_region rfl ?_
          refine WL_is (X_move rfl rfl) rfl rfl rfl ?_
          refine WL_is (X_move rfl rfl) rfl rfl rfl ?_
          refine WL_is (X_geq_t rfl rfl rfl (by omega)) rfl rfl rfl ?_
          refine WL_is (X_move rfl rfl) rfl rfl rfl ?_
          refine WL_is (X_move rfl rfl) rfl rfl rfl ?_
          refine WL_is (X_move rfl rfl) rfl rfl rfl ?_
          refine WL_is (X_move rfl rfl) rfl rfl rfl ?_
          refine WL_is (X_addW rfl rfl rfl (by exact wrap_i64_in (by omega) (by omega))) rfl rfl rfl ?_
          refine WL_is (X_lss_f rfl rfl rfl (by omega)) rfl rfl rfl ?_
          refine WL_is (X_pick_t rfl rfl rfl) rfl rfl rfl ?_
          (repeat (first | refine WL_nil ?_ | refine Then_normal ?_ | refine W_skip ?_ | refine W_false rfl ?_))
          skip
          refine W_region rfl ?_
          refine WL_is (X_move rfl rfl) rfl rfl rfl ?_
          refine WL_is (X_mulW rfl rfl rfl (by exact wrap_u64_in (by omega) (by omega))) rfl rfl rfl ?_
          refine WL_is (X_move rfl rfl) rfl rfl rfl ?_
          refine WL_is (X_addW rfl rfl rfl (by exact wrap_u64_in (by omega) (by omega))) rfl rfl rfl ?_
          refine WL_is (X_assign rfl rfl) rfl rfl rfl ?_
          (repeat (first | refine WL_nil ?_ | refine Then_normal ?_ | refine inBlk_normal ?_))
          skip
          refine W_region rfl ?_
          refine WL_is (X_move rfl rfl) rfl rfl rfl ?_
          refine WL_is (X_subW rfl rfl rfl (by exact wrap_i64_in (by omega) (by omega))) rfl rfl rfl ?_
          refine WL_is (X_assign rfl rfl) rfl rfl rfl ?_
          (repeat (first | refine WL_nil ?_ | refine Then_normal ?_))
          refine ⟨k, ⟨?_, rfl, SubR.refl _, rfl⟩, by omega, by omega⟩
          rw [← hh]
          simp only [Int.natCast_add, Int.natCast_mul]
          exact (by repeat (first | exact SubE_nil | refine SubE_cons rfl ?_))
      · rw [if_neg (by omega)] at hbk
        generalize w / 2 ^ k % 2 = bb at hb hbk
        generalize T / 2 ^ (k + 1) = t1 at hh ⊢
        rw [hbk] at hh
        (repeat (first | refine W_seq ?_))
        refine W_region rfl ?_
        refine WL_is (X_move rfl rfl) rfl rfl rfl ?_
        refine WL_is (X_geq_t rfl rfl rfl (by omega)) rfl rfl rfl ?_
        (repeat (first | refine WL_nil ?_ | refine Then_normal ?_ | refine W_seq ?_ | refine W_skip ?_ | refine W_block ?_ | refine W_true rfl ?_))
        skip
        refine W_region rfl ?_
        refine WL_is (X_move rfl rfl) rfl rfl rfl ?_
        refine WL_is (X_move rfl rfl) rfl rfl rfl ?_
        refine WL_is (X_callv rfl rfl rfl Try.func30 rfl (by assumption)) rfl rfl rfl ?_
        refine WL_is (X_assign rfl rfl) rfl rfl rfl ?_
        (repeat (first | refine WL_nil ?_ | refine Then_normal ?_ | refine W_seq ?_))
        skip
        refine W_region rfl ?_
        refine WL_is (X_move rfl rfl) rfl rfl rfl ?_
        refine WL_is (X_move rfl rfl) rfl rfl rfl ?_
        refine WL_is (X_geq_f rfl rfl rfl (by omega)) rfl rfl rfl ?_
        refine WL_is (X_move rfl rfl) rfl rfl rfl ?_
        refine WL_off rfl rfl rfl ?_
        refine WL_off rfl rfl rfl ?_
        refine WL_off rfl rfl rfl ?_
        refine WL_off rfl rfl rfl ?_
        refine WL_off rfl rfl rfl ?_
        refine WL_is (X_pick_f rfl rfl rfl) rfl rfl rfl ?_
        (repeat (first | refine WL_nil ?_ | refine Then_normal ?_ | refine W_skip ?_ | refine W_false rfl ?_))
        skip
        refine W_region rfl ?_
        refine WL_is (X_move rfl rfl) rfl rfl rfl ?_
        refine WL_is (X_mulW rfl rfl rfl (by exact wrap_u64_in (by omega) (by omega))) rfl rfl rfl ?_
        refine WL_is (X_move rfl rfl) rfl rfl rfl ?_
        refine WL_is (X_addW rfl rfl rfl (by exact wrap_u64_in (by omega) (by omega))) rfl rfl rfl ?_
        refine WL_is (X_assign rfl rfl) rfl rfl rfl ?_
        (repeat (first | refine WL_nil ?_ | refine Then_normal ?_ | refine inBlk_normal ?_))
        skip
        refine W_region rfl ?_
        refine WL_is (X_move rfl rfl) rfl rfl rfl ?_
        refine WL_is (X_subW rfl rfl rfl (by exact wrap_i64_in (by omega) (by omega))) rfl rfl rfl ?_
        refine WL_is (X_assign rfl rfl) rfl rfl rfl ?_
        (repeat (first | refine WL_nil ?_ | refine Then_normal ?_))
        refine ⟨k, ⟨?_, rfl, SubR.refl _, rfl⟩, by omega, by omega⟩
        rw [← hh]
        simp only [Int.natCast_add, Int.natCast_mul]
        exact (by repeat (first | exact SubE_nil | refine SubE_cons rfl ?_))
end Go.Proofs.Ytoocbfpomamdeaa
