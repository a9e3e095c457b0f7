/- Files: words with bytes in them, by the code. -/
import Derived.Test.YtoocbfpomamdeaaFileG
namespace Go.Proofs.Ytoocbfpomamdeaa
set_option maxRecDepth 4000
open Go Go.Par PH
theorem or_step {B : Nat → Nat} (hB : ∀ j, B j < 256) {k : Nat} (hk : k < 8) : bits .or .u64 ((ofB B k : Nat) : Int) (IntKind.u64.wrap (((B k : Nat) : Int) * 2 ^ (8 * (k : Int)).toNat)) = ((ofB B (k + 1) : Nat) : Int) := by
  have e1 : (8 * (k : Int)).toNat = 8 * k := by omega
  have h1 := ofB_lt hB k
  have h2 := ofB_lt hB (k + 1)
  have e2 : (256 : Nat) ^ k = 2 ^ (8 * k) := by rw [show (256 : Nat) = 2 ^ 8 from rfl, ← Nat.pow_mul]
  have h3 : (256 : Nat) ^ (k + 1) ≤ 256 ^ 8 := Nat.pow_le_pow_right (by decide) (by omega)
  rw [two64] at h3
  simp only [ofB] at h2 ⊢
  have e3 : ((B k : Nat) : Int) * 2 ^ (8 * (k : Int)).toNat = ((B k * 256 ^ k : Nat) : Int) := by rw [e1, e2]; simp
  rw [e3, wrap_u64_in (by omega) (by omega), bits_or_u64_nat _ _ (by omega) (by omega)]
  congr 1
  rw [e2] at h1 ⊢
  rw [Nat.or_comm, ← Nat.shiftLeft_eq, ← Nat.shiftLeft_add_eq_or_of_lt h1, Nat.add_comm]
def cellsB (B : Nat → Nat) : List Value := (List.range 8).map fun j => .int .u8 ((B j : Nat) : Int)
theorem cellsB_get {B : Nat → Nat} {k : Nat} (hk : k < 8) : (cellsB B)[k]? = some (.int .u8 ((B k : Nat) : Int)) := by
  unfold cellsB; rw [List.getElem?_map, List.getElem?_range hk]; rfl
theorem cells_w (w : Nat) (hw : w < 18446744073709551616) : [Value.int .u8 (IntKind.u8.wrap (w : Int)), .int .u8 (IntKind.u8.wrap ((w : Int) / 256)), .int .u8 (IntKind.u8.wrap ((w : Int) / 65536)), .int .u8 (IntKind.u8.wrap ((w : Int) / 16777216)), .int .u8 (IntKind.u8.wrap ((w : Int) / 4294967296)),
    .int .u8 (IntKind.u8.wrap ((w : Int) / 1099511627776)), .int .u8 (IntKind.u8.wrap ((w : Int) / 281474976710656)), .int .u8 ((w : Int) / 72057594037927936)] = cellsB (byteN w) := by
  simp only [IntKind.wrap_u8]
  show _ = [Value.int .u8 ((byteN w 0 : Nat) : Int), .int .u8 ((byteN w 1 : Nat) : Int), .int .u8 ((byteN w 2 : Nat) : Int), .int .u8 ((byteN w 3 : Nat) : Int), .int .u8 ((byteN w 4 : Nat) : Int), .int .u8 ((byteN w 5 : Nat) : Int), .int .u8 ((byteN w 6 : Nat) : Int), .int .u8 ((byteN w 7 : Nat) : Int)]
  simp [byteN]; omega
theorem cells_copy (w : Nat) (s : ByteArray) (f : Nat) (h : f + s.size ≤ 8) : wr (cellsB (byteN w)) (if 8 = f then 0 else f * 1) (bytesV s) = cellsB (mrgB w s f s.size) := by
  have hlen : (cellsB (byteN w)).length = 8 := by simp [cellsB]
  apply List.ext_getElem?
  intro j
  have hb : (if 8 = f then 0 else f * 1) + (bytesV s).length ≤ (cellsB (byteN w)).length := by rw [bytesV_len, hlen]; split <;> omega
  rw [wr_get hb, bytesV_len]
  by_cases hj : j < 8
  · rw [cellsB_get hj, cellsB_get hj]
    unfold mrgB
    by_cases hc : f ≤ j ∧ j < f + s.size
    · have hf : ¬ 8 = f := by omega
      rw [if_neg hf, Nat.mul_one, if_pos hc, if_pos hc]
      have hjs : j - f < s.data.toList.length := by simp; omega
      simp only [bytesV, List.getElem?_map, chrN]
      rw [List.getElem?_eq_getElem hjs]; rfl
    · rw [if_neg hc]
      by_cases hf : 8 = f
      · rw [if_pos hf, if_neg (by omega)]
      · rw [if_neg hf, Nat.mul_one, if_neg hc]
  · have h1 : (cellsB (byteN w))[j]? = none := List.getElem?_eq_none (by rw [hlen]; omega)
    have h2 : (cellsB (mrgB w s f s.size))[j]? = none := List.getElem?_eq_none (by simp [cellsB]; omega)
    rw [h1, h2, if_neg]
    split <;> omega
attribute [local irreducible] W WL Does Exec Body Then inBlk RG WR row obj pblk
attribute [local irreducible] bits
set_option maxHeartbeats 2000000 in
theorem merge_fn (h : PH) (w : Nat) (f : Int) (s : ByteArray) (hw : w < 18446744073709551616) (hs : s.size ≤ 1000000) : Does Try.prog 14 [.int .u64 (w : Int), .int .i64 f, .string s] [] h (Ret fun r _ _ => r = .tuple #[.int .u64 (mrgW w f s), .int .i64 (mrgE f s)]) := by
  refine Does_of_W Try.func14 rfl (n := 55) rfl rfl (by simp only [argE, Nat.reduceAdd] <;> rfl) ?_
  by_cases h1 : f < 0
  · (repeat (first | refine W_seq ?_))
    skip
    refine W_region rfl ?_
    refine WL_is (X_assign rfl rfl) rfl rfl rfl ?_
    refine WL_is (X_assign rfl rfl) rfl rfl rfl ?_
    (repeat (first | refine WL_nil ?_ | refine Then_normal ?_ | refine W_seq ?_))
    skip
    refine W_region rfl ?_
    refine WL_is (X_move rfl rfl) rfl rfl rfl ?_
    refine WL_is (X_lss_t rfl rfl rfl (by omega)) rfl rfl rfl ?_
    refine WL_is (X_move rfl rfl) rfl rfl rfl ?_
    refine WL_off rfl rfl rfl ?_
    refine WL_off rfl rfl rfl ?_
    refine WL_is (X_pick_t rfl rfl rfl) rfl rfl rfl ?_
    refine WL_is (X_move rfl rfl) rfl rfl rfl ?_
    refine WL_off rfl rfl rfl ?_
    refine WL_off rfl rfl rfl ?_
    refine WL_off rfl rfl rfl ?_
    refine WL_off rfl rfl rfl ?_
    refine WL_off rfl rfl rfl ?_
    refine WL_is (X_pick_t rfl rfl rfl) rfl rfl rfl ?_
    (repeat (first | refine WL_nil ?_ | refine Then_normal ?_ | refine W_seq ?_ | refine W_true rfl ?_))
    skip
    refine W_region rfl ?_
    refine WL_is (X_assign rfl rfl) rfl rfl rfl ?_
    refine WL_is (X_assign rfl rfl) rfl rfl rfl ?_
    (repeat (first | refine WL_nil ?_ | refine Then_normal ?_ | refine W_ret ?_ | refine Then_ret ?_))
    refine Body_end rfl rfl rfl (SubR.none _) ?_
    simp [mrgW, mrgE, h1]
  by_cases h2 : f > 8
  · (repeat (first | refine W_seq ?_))
    skip
    refine W_region rfl ?_
    refine WL_is (X_assign rfl rfl) rfl rfl rfl ?_
    refine WL_is (X_assign rfl rfl) rfl rfl rfl ?_
    (repeat (first | refine WL_nil ?_ | refine Then_normal ?_ | refine W_seq ?_))
    skip
    refine W_region rfl ?_
    refine WL_is (X_move rfl rfl) rfl rfl rfl ?_
    refine WL_is (X_lss_f rfl rfl rfl (by omega)) rfl rfl rfl ?_
    refine WL_is (X_move rfl rfl) rfl rfl rfl ?_
    refine WL_is (X_move rfl rfl) rfl rfl rfl ?_
    refine WL_is (X_gtr_t rfl rfl rfl (by omega)) rfl rfl rfl ?_
    refine WL_is (X_pick_f rfl rfl rfl) rfl rfl rfl ?_
    refine WL_is (X_move rfl rfl) rfl rfl rfl ?_
    refine WL_off rfl rfl rfl ?_
    refine WL_off rfl rfl rfl ?_
    refine WL_off rfl rfl rfl ?_
    refine WL_off rfl rfl rfl ?_
    refine WL_off rfl rfl rfl ?_
    refine WL_is (X_pick_t rfl rfl rfl) rfl rfl rfl ?_
    (repeat (first | refine WL_nil ?_ | refine Then_normal ?_ | refine W_seq ?_ | refine W_true rfl ?_))
    skip
    refine W_region rfl ?_
    refine WL_is (X_assign rfl rfl) rfl rfl rfl ?_
    refine WL_is (X_assign rfl rfl) rfl rfl rfl ?_
    (repeat (first | refine WL_nil ?_ | refine Then_normal ?_ | refine W_ret ?_ | refine Then_ret ?_))
    refine Body_end rfl rfl rfl (SubR.none _) ?_
    simp [mrgW, mrgE, h2]
  by_cases h3 : (s.size : Int) > 8 - f
  · (repeat (first | refine W_seq ?_))
    skip
    refine W_region rfl ?_
    refine WL_is (X_assign rfl rfl) rfl rfl rfl ?_
    refine WL_is (X_assign rfl rfl) rfl rfl rfl ?_
    (repeat (first | refine WL_nil ?_ | refine Then_normal ?_ | refine W_seq ?_))
    skip
    refine W_region rfl ?_
    refine WL_is (X_move rfl rfl) rfl rfl rfl ?_
    refine WL_is (X_lss_f rfl rfl rfl (by omega)) rfl rfl rfl ?_
    refine WL_is (X_move rfl rfl) rfl rfl rfl ?_
    refine WL_is (X_move rfl rfl) rfl rfl rfl ?_
    refine WL_is (X_gtr_f rfl rfl rfl (by omega)) rfl rfl rfl ?_
    refine WL_is (X_pick_f rfl rfl rfl) rfl rfl rfl ?_
    refine WL_is (X_move rfl rfl) rfl rfl rfl ?_
    refine WL_is (X_move rfl rfl) rfl rfl rfl ?_
    refine WL_is (X_len_str rfl rfl rfl) rfl rfl rfl ?_
    refine WL_is (X_move rfl rfl) rfl rfl rfl ?_
    refine WL_is (X_subW rfl rfl rfl (by exact wrap_i64_in (by omega) (by omega))) rfl rfl rfl ?_
    refine WL_is (X_gtr_t rfl rfl rfl (by omega)) rfl rfl rfl ?_
    refine WL_is (X_pick_f rfl rfl rfl) rfl rfl rfl ?_
    (repeat (first | refine WL_nil ?_ | refine Then_normal ?_ | refine W_seq ?_ | refine W_true rfl ?_))
    skip
    refine W_region rfl ?_
    refine WL_is (X_assign rfl rfl) rfl rfl rfl ?_
    refine WL_is (X_assign rfl rfl) rfl rfl rfl ?_
    (repeat (first | refine WL_nil ?_ | refine Then_normal ?_ | refine W_ret ?_ | refine Then_ret ?_))
    refine Body_end rfl rfl rfl (SubR.none _) ?_
    simp [mrgW, mrgE, h3]
  have he : mrgE f s = 0 := by unfold mrgE; rw [if_neg (by omega)]
  unfold mrgW
  rw [he, if_pos rfl]
  obtain ⟨f, rfl⟩ := Int.eq_ofNat_of_zero_le (by omega : 0 ≤ f)
  simp only [Int.toNat_natCast]
  (repeat (first | refine W_seq ?_))
  skip
  refine W_region rfl ?_
  refine WL_is (X_assign rfl rfl) rfl rfl rfl ?_
  refine WL_is (X_assign rfl rfl) rfl rfl rfl ?_
  (repeat (first | refine WL_nil ?_ | refine Then_normal ?_ | refine W_seq ?_))
  skip
  refine W_region rfl ?_
  refine WL_is (X_move rfl rfl) rfl rfl rfl ?_
  refine WL_is (X_lss_f rfl rfl rfl (by omega)) rfl rfl rfl ?_
  refine WL_is (X_move rfl rfl) rfl rfl rfl ?_
  refine WL_is (X_move rfl rfl) rfl rfl rfl ?_
  refine WL_is (X_gtr_f rfl rfl rfl (by omega)) rfl rfl rfl ?_
  refine WL_is (X_pick_f rfl rfl rfl) rfl rfl rfl ?_
  refine WL_is (X_move rfl rfl) rfl rfl rfl ?_
  refine WL_is (X_move rfl rfl) rfl rfl rfl ?_
  refine WL_is (X_len_str rfl rfl rfl) rfl rfl rfl ?_
  refine WL_is (X_move rfl rfl) rfl rfl rfl ?_
  refine WL_is (X_subW rfl rfl rfl (by exact wrap_i64_in (by omega) (by omega))) rfl rfl rfl ?_
  refine WL_is (X_gtr_f rfl rfl rfl (by omega)) rfl rfl rfl ?_
  refine WL_is (X_pick_f rfl rfl rfl) rfl rfl rfl ?_
  (repeat (first | refine WL_nil ?_ | refine Then_normal ?_ | refine W_seq ?_ | refine W_skip ?_ | refine W_false rfl ?_))
  skip
  refine W_region rfl ?_
  (refine WL_alloc rfl rfl rfl rfl rfl rfl ?_; intro b_)
  (repeat (first | refine WL_nil ?_ | refine Then_normal ?_ | refine W_seq ?_))
  skip
  refine W_region rfl ?_
  refine WL_is (X_move rfl rfl) rfl rfl rfl ?_
  (repeat (first | refine WL_nil ?_ | refine Then_normal ?_ | refine W_block ?_))
  generalize b_ = bb
  refine W_rounds 9 ?_
  iterate 8
    ((repeat (first | refine WR_succ ?_ | refine W_seq ?_))
     refine W_region rfl ?_
     refine WL_is (X_lss_t rfl rfl rfl (by omega)) rfl rfl rfl ?_
     (repeat (first | refine WL_nil ?_ | refine Then_normal ?_ | refine W_seq ?_ | refine W_skip ?_ | refine W_block ?_ | refine W_true rfl ?_))
     skip
     refine W_region rfl ?_
     refine WL_is (X_move rfl rfl) rfl rfl rfl ?_
     refine WL_is (X_assign rfl rfl) rfl rfl rfl ?_
     (repeat (first | refine WL_nil ?_ | refine Then_normal ?_))
     skip
     refine W_region rfl ?_
     refine WL_is (X_move rfl rfl) rfl rfl rfl ?_
     refine WL_is (X_move rfl rfl) rfl rfl rfl ?_
     refine WL_is (X_move rfl rfl) rfl rfl rfl ?_
     refine WL_is (X_mulW rfl rfl rfl (by refine wrapL (by simp only [Int.reduceMul] <;> rfl) ?_; decide)) rfl rfl rfl ?_
     refine WL_is (X_shrW rfl rfl rfl (by omega) (by decide) (by simp only [Int.reduceToNat, Int.toNat_zero, Int.reducePow, Int.ediv_one, Int.pow_zero] <;> rfl)) rfl rfl rfl ?_
     (first | refine WL_is (X_convW rfl rfl rfl rfl (by exact wrap_u8_in (by omega) (by omega))) rfl rfl rfl ?_ | refine WL_is (X_conv rfl rfl rfl rfl) rfl rfl rfl ?_)
     refine WL_is (X_index_arr (sz := 1) rfl rfl rfl rfl rfl (by omega) (by omega) (by simp only [Nat.zero_add, Int.toNat_zero, Int.toNat_one, Int.reduceToNat, Nat.mul_one] <;> rfl)) rfl rfl rfl ?_
     refine WL_store rfl rfl rfl (by exact idx0) rfl rfl rfl rfl rfl rfl rfl rfl rfl ?_
     (repeat (first | refine WL_nil ?_ | refine Then_normal ?_ | refine inBlk_normal ?_))
     skip
     refine W_region rfl ?_
     refine WL_is (X_addW rfl rfl rfl (by refine wrapL (by simp only [Int.reduceAdd] <;> rfl) ?_; decide)) rfl rfl rfl ?_
     refine WL_is (X_move rfl rfl) rfl rfl rfl ?_
     (repeat (first | refine WL_nil ?_ | refine WR_succ ?_ | refine Then_normal ?_ | refine W_seq ?_)))
  skip
  refine W_region rfl ?_
  refine WL_is (X_lss_f rfl rfl rfl (by omega)) rfl rfl rfl ?_
  (repeat (first | refine WL_nil ?_ | refine Then_normal ?_ | refine W_seq ?_ | refine W_exit ?_ | refine Then_exit ?_ | refine inBlk_here ?_ | refine W_false rfl ?_))
  skip
  refine W_region rfl ?_
  refine WL_is (X_move rfl rfl) rfl rfl rfl ?_
  refine WL_is (X_sliceArrLo (sz := 1) rfl rfl rfl rfl rfl (by omega) (by omega)) rfl rfl rfl ?_
  refine WL_is (X_move rfl rfl) rfl rfl rfl ?_
  rw [cells_w w hw]
  have hcl : (cellsB (byteN w)).length = 8 := by simp [cellsB]
  refine WL_copyS (i := 0) (s := s) (off := if 8 = f then 0 else f * 1) (m := 8 - f) rfl rfl rfl rfl rfl (by omega) rfl (by rw [hcl]; split <;> omega) rfl rfl rfl ?_
  simp only [List.set_cons_zero]
  rw [cells_copy w s f (by omega)]
  have hB := mrgB_lt w s f s.size
  have hgt := fun k hk => cellsB_get (B := mrgB w s f s.size) (k := k) hk
  have hlc : (cellsB (mrgB w s f s.size)).length = 8 := by simp [cellsB]
  generalize cellsB (mrgB w s f s.size) = cs at hgt hlc ⊢
  generalize mrgB w s f s.size = B at hB hgt ⊢
  (repeat (first | refine WL_nil ?_ | refine Then_normal ?_ | refine W_seq ?_))
  skip
  refine W_region rfl ?_
  refine WL_is (X_assign rfl rfl) rfl rfl rfl ?_
  (repeat (first | refine WL_nil ?_ | refine Then_normal ?_ | refine W_seq ?_))
  skip
  refine W_region rfl ?_
  refine WL_is (X_loadAll (sz := 8) rfl rfl idx0 rfl rfl hlc) rfl rfl rfl ?_
  refine WL_is (X_move rfl rfl) rfl rfl rfl ?_
  (repeat (first | refine WL_nil ?_ | refine Then_normal ?_ | refine W_block ?_))
  refine W_loop (X := Nat) (L := fun k => ⟨[(42, .int .i64 (k : Int)), (10, .int .u64 ((ofB B k : Nat) : Int)), (41, .agg cs.toArray)], [], [], h⟩) (p := fun k => k ≤ 8) (μ := fun k => 8 - k) 0 ⟨(by repeat (first | exact SubE_nil | refine SubE_cons rfl ?_)), rfl, SubR.none _, rfl⟩ (Nat.zero_le _) ?_
  intro k hk
  by_cases hlt : (k : Int) < 8
  · have hk8 : k < 8 := by omega
    have hck := hgt k hk8
    have hor := or_step hB hk8
    have hBk := hB k
    (repeat (first | refine W_seq ?_))
    refine W_region rfl ?_
    refine WL_is (X_lss_t rfl rfl rfl (by omega)) rfl rfl rfl ?_
    (repeat (first | refine WL_nil ?_ | refine Then_normal ?_ | refine W_seq ?_ | refine W_skip ?_ | refine W_block ?_ | refine W_true rfl ?_))
    skip
    refine W_region rfl ?_
    refine WL_is (X_move rfl rfl) rfl rfl rfl ?_
    refine WL_is (X_index_valS (sz := 1) rfl rfl rfl rfl rfl rfl (by omega) (by omega) (by simp only [Int.toNat_natCast, Nat.mul_one] <;> rfl) (by assumption)) rfl rfl rfl ?_
    refine WL_is (X_assign rfl rfl) rfl rfl rfl ?_
    refine WL_is (X_assign rfl rfl) rfl rfl rfl ?_
    (repeat (first | refine WL_nil ?_ | refine Then_normal ?_))
    skip
    refine W_region rfl ?_
    refine WL_is (X_move rfl rfl) rfl rfl rfl ?_
    refine WL_is (X_move rfl rfl) rfl rfl rfl ?_
    refine WL_is (X_convW rfl rfl rfl rfl (by exact wrap_u64_in (by omega) (by omega))) rfl rfl rfl ?_
    refine WL_is (X_move rfl rfl) rfl rfl rfl ?_
    refine WL_is (X_mulW rfl rfl rfl (by exact wrap_i64_in (by omega) (by omega))) rfl rfl rfl ?_
    refine WL_is (X_shl rfl rfl rfl (by omega) (by simp [IntKind.bits] <;> omega)) rfl rfl rfl ?_
    refine WL_is (X_or rfl rfl rfl) rfl rfl rfl ?_
    refine WL_is (X_assign rfl rfl) rfl rfl rfl ?_
    (repeat (first | refine WL_nil ?_ | refine Then_normal ?_ | refine inBlk_normal ?_))
    skip
    refine W_region rfl ?_
    refine WL_is (X_addW rfl rfl rfl (by exact wrap_i64_in (by omega) (by omega))) rfl rfl rfl ?_
    refine WL_is (X_move rfl rfl) rfl rfl rfl ?_
    (repeat (first | refine WL_nil ?_ | refine Then_normal ?_))
    rw [hor]
    exact ⟨k + 1, ⟨(by repeat (first | exact SubE_nil | refine SubE_cons rfl ?_)), rfl, SubR.none _, rfl⟩, by omega, by omega⟩
  · have hk8 : k = 8 := by omega
    subst hk8
    (repeat (first | refine W_seq ?_))
    refine W_region rfl ?_
    refine WL_is (X_lss_f rfl rfl rfl (by omega)) rfl rfl rfl ?_
    (repeat (first | refine WL_nil ?_ | refine Then_normal ?_ | refine W_seq ?_ | refine W_exit ?_ | refine Then_exit ?_ | refine inBlk_here ?_ | refine W_false rfl ?_))
    skip
    refine W_region rfl ?_
    refine WL_is (X_move rfl rfl) rfl rfl rfl ?_
    refine WL_is (X_assign rfl rfl) rfl rfl rfl ?_
    refine WL_is (X_assign rfl rfl) rfl rfl rfl ?_
    (repeat (first | refine WL_nil ?_ | refine Then_normal ?_ | refine W_ret ?_))
    refine Body_end rfl rfl rfl (SubR.none _) ?_
    rfl
end Go.Proofs.Ytoocbfpomamdeaa
