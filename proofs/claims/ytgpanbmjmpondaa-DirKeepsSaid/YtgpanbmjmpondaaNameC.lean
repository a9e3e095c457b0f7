/- Names: checksums, by bits. -/
import Derived.Test.YtgpanbmjmpondaaNameB
namespace Go.Proofs.Ytgpanbmjmpondaa
set_option maxRecDepth 4000
open Go Go.Par PH
def st32 (c : Nat) : Nat := if c % 2 = 1 then (c / 2) ^^^ 3988292384 else c / 2
theorem st32_lt {c : Nat} (h : c < 4294967296) : st32 c < 4294967296 := by
  unfold st32
  split
  · exact Nat.xor_lt_two_pow (n := 32) (by omega) (by decide)
  · omega
def it32 : Nat → Nat → Nat
  | 0, c => c
  | k + 1, c => st32 (it32 k c)
theorem it32_lt {c : Nat} (h : c < 4294967296) : ∀ k, it32 k c < 4294967296
  | 0 => h
  | k + 1 => st32_lt (it32_lt h k)
def on8 (c : Nat) (b : UInt8) : Nat := it32 8 (c ^^^ b.toNat)
theorem x8_lt {c : Nat} (h : c < 4294967296) (b : UInt8) : c ^^^ b.toNat < 4294967296 := Nat.xor_lt_two_pow (n := 32) h (by have := b.toNat_lt; omega)
theorem on8_lt {c : Nat} (h : c < 4294967296) (b : UInt8) : on8 c b < 4294967296 := it32_lt (x8_lt h b) 8
def crcL (c : Nat) (l : Bs) : Nat := l.foldl on8 c
theorem crcL_lt {c : Nat} (h : c < 4294967296) (l : Bs) : crcL c l < 4294967296 := by
  induction l generalizing c with
  | nil => exact h
  | cons b l ih => exact ih (on8_lt h b)
theorem crcL_succ {c : Nat} {l : Bs} {j : Nat} (hj : j < l.length) : crcL c (l.take (j + 1)) = on8 (crcL c (l.take j)) l[j] := by
  unfold crcL
  rw [List.take_add_one, List.getElem?_eq_getElem hj, List.foldl_append]; rfl
theorem and1 (c : Nat) : c &&& 1 = c % 2 := by simp [Nat.and_one_is_mod]
theorem step_code {c : Nat} (h : c < 4294967296) : bits .xor .u32 ((c : Int) / 2) (bits .and .u32 3988292384 (IntKind.u32.wrap (0 - bits .and .u32 (c : Int) 1))) = ((st32 c : Nat) : Int) := by
  have e1 : bits .and .u32 (c : Int) 1 = ((c % 2 : Nat) : Int) := by
    have := u32_and_nat c 1 h (by decide)
    rw [and1] at this
    exact this
  rw [e1]
  have e2 : (c : Int) / 2 = ((c / 2 : Nat) : Int) := by omega
  rw [e2]
  unfold st32
  rcases Nat.mod_two_eq_zero_or_one c with h0 | h1
  · rw [h0, if_neg (by decide)]
    have e3 : bits .and .u32 3988292384 (IntKind.u32.wrap (0 - ((0 : Nat) : Int))) = ((0 : Nat) : Int) := by decide
    rw [e3, u32_xor_nat _ _ (by omega) (by decide)]
    simp
  · rw [h1, if_pos rfl]
    have e3 : bits .and .u32 3988292384 (IntKind.u32.wrap (0 - ((1 : Nat) : Int))) = ((3988292384 : Nat) : Int) := by decide
    rw [e3, u32_xor_nat _ _ (by omega) (by decide)]
structure CX where
  k : Nat
  j : Nat
attribute [local irreducible] W WL Does Exec Body Then inBlk RG WR row obj pblk
attribute [local irreducible] bits IntKind.wrap
theorem on_fn (h : PH) (c : Nat) (b : UInt8) (hc : c < 4294967296) : Does Try.prog 49 [.int .u32 (c : Int), .int .u8 b.toNat] [] h (Ret fun r _ _ => r = .int .u32 ((on8 c b : Nat) : Int)) := by
  have hx := u32_xor_nat c b.toNat hc (by have := b.toNat_lt; omega)
  have hw : IntKind.u32.wrap (b.toNat : Int) = (b.toNat : Int) := by rw [IntKind.wrap_u32']; have := b.toNat_lt; omega
  have hd := x8_lt hc b
  unfold on8
  generalize hdd : c ^^^ b.toNat = d at *
  refine Does_of_W Try.func49 rfl (n := 20) rfl rfl (by simp only [argE, Nat.reduceAdd] <;> rfl) ?_
  (repeat (first | refine W_seq ?_))
  skip
  refine W_region rfl ?_
  refine WL_is (X_assign rfl rfl) rfl rfl rfl ?_
  (repeat (first | refine WL_nil ?_ | refine Then_normal ?_ | refine W_seq ?_))
  skip
  refine W_region rfl ?_
  refine WL_is (X_move rfl rfl) rfl rfl rfl ?_
  refine WL_is (X_move rfl rfl) rfl rfl rfl ?_
  refine WL_is (X_conv rfl rfl rfl rfl) rfl rfl rfl ?_
  refine WL_is (X_xor rfl rfl rfl) rfl rfl rfl ?_
  refine WL_is (X_assign rfl rfl) rfl rfl rfl ?_
  (repeat (first | refine WL_nil ?_ | refine Then_normal ?_ | refine W_seq ?_))
  skip
  refine W_region rfl ?_
  refine WL_is (X_move rfl rfl) rfl rfl rfl ?_
  (repeat (first | refine WL_nil ?_ | refine Then_normal ?_ | refine W_block ?_))
  rw [hw]
  refine W_loop (X := Nat) (L := fun k => ⟨[(9, .int .i64 (k : Int)), (0, .int .u32 ((it32 k d : Nat) : Int))], [], [], h⟩) (p := fun k => k ≤ 8) (μ := fun k => 8 - k) 0 ⟨by rw [hx]; exact (by repeat (first | exact SubE_nil | refine SubE_cons rfl ?_)), rfl, SubR.refl _, rfl⟩ (Nat.zero_le _) ?_
  intro k hk
  have hlt := it32_lt hd k
  have hs := step_code hlt
  by_cases hk8 : (k : Int) < 8
  · (repeat (first | refine W_seq ?_))
    refine W_region rfl ?_
    refine WL_is (X_lss_t rfl rfl rfl (by omega)) rfl rfl rfl ?_
    (repeat (first | refine WL_nil ?_ | refine Then_normal ?_ | refine W_seq ?_ | refine W_skip ?_ | refine W_block ?_ | refine W_true rfl ?_))
    skip
    refine W_region rfl ?_
    refine WL_is (X_move rfl rfl) rfl rfl rfl ?_
    refine WL_is (X_shrW rfl rfl rfl (by omega) (by decide) (by simp only [Int.toNat_one, Int.reducePow] <;> rfl)) rfl rfl rfl ?_
    refine WL_is (X_move rfl rfl) rfl rfl rfl ?_
    refine WL_is (X_and rfl rfl rfl) rfl rfl rfl ?_
    refine WL_is (X_neg rfl rfl) rfl rfl rfl ?_
    refine WL_is (X_and rfl rfl rfl) rfl rfl rfl ?_
    refine WL_is (X_xor rfl rfl rfl) rfl rfl rfl ?_
    refine WL_is (X_assign rfl rfl) rfl rfl rfl ?_
    (repeat (first | refine WL_nil ?_ | refine Then_normal ?_ | refine inBlk_normal ?_))
    skip
    refine W_region rfl ?_
    refine WL_is (X_addW rfl rfl rfl (by exact wrap_i64_in (by omega) (by omega))) rfl rfl rfl ?_
    refine WL_is (X_move rfl rfl) rfl rfl rfl ?_
    (repeat (first | refine WL_nil ?_ | refine Then_normal ?_))
    rw [hs]
    exact ⟨k + 1, ⟨(by repeat (first | exact SubE_nil | refine SubE_cons rfl ?_)), rfl, SubR.refl _, rfl⟩, by omega, by omega⟩
  · have : k = 8 := by omega
    subst this
    (repeat (first | refine W_seq ?_))
    refine W_region rfl ?_
    refine WL_is (X_lss_f rfl rfl rfl (by omega)) rfl rfl rfl ?_
    (repeat (first | refine WL_nil ?_ | refine Then_normal ?_ | refine W_seq ?_ | refine W_exit ?_ | refine Then_exit ?_ | refine inBlk_here ?_ | refine W_false rfl ?_))
    skip
    refine W_region rfl ?_
    refine WL_is (X_move rfl rfl) rfl rfl rfl ?_
    refine WL_is (X_assign rfl rfl) rfl rfl rfl ?_
    (repeat (first | refine WL_nil ?_ | refine Then_normal ?_ | refine W_ret ?_))
    refine Body_end rfl rfl rfl (SubR.none _) ?_
    rfl
theorem more_fn (h : PH) (l : Bs) (hl : l.length ≤ 1000000) : Does Try.prog 47 [.int .u32 0, .string (mkB l)] [] h (Ret fun r _ _ => r = .int .u32 (bits .xor .u32 4294967295 ((crcL 4294967295 l : Nat) : Int))) := by
  have hsz := mkB_size l
  have hm : (if IntKind.u32.signed then (-1 : Int) else IntKind.u32.max) = 4294967295 := rfl
  have hx : bits .xor .u32 4294967295 0 = 4294967295 := by
    have := u32_xor_nat 4294967295 0 (by decide) (by decide)
    simpa using this
  refine Does_of_W Try.func47 rfl (n := 21) rfl rfl (by simp only [argE, Nat.reduceAdd] <;> rfl) ?_
  (repeat (first | refine W_seq ?_))
  refine W_region rfl ?_
  refine WL_is (X_assign rfl rfl) rfl rfl rfl ?_
  (repeat (first | refine WL_nil ?_ | refine Then_normal ?_ | refine W_seq ?_))
  skip
  refine W_region rfl ?_
  refine WL_is (X_move rfl rfl) rfl rfl rfl ?_
  refine WL_is (X_cpl rfl rfl) rfl rfl rfl ?_
  rw [hm, hx]
  refine WL_is (X_assign rfl rfl) rfl rfl rfl ?_
  (repeat (first | refine WL_nil ?_ | refine Then_normal ?_ | refine W_seq ?_))
  skip
  refine W_region rfl ?_
  refine WL_is (X_move rfl rfl) rfl rfl rfl ?_
  refine WL_is (X_len_str rfl rfl rfl) rfl rfl rfl ?_
  refine WL_is (X_move rfl rfl) rfl rfl rfl ?_
  (repeat (first | refine WL_nil ?_ | refine Then_normal ?_ | refine W_block ?_))
  refine W_loop (X := Nat) (L := fun j => ⟨[(10, .int .i64 (j : Int)), (9, .int .i64 (mkB l).size), (1, .string (mkB l)), (0, .int .u32 ((crcL 4294967295 (l.take j) : Nat) : Int))], [], [], h⟩) (p := fun j => j ≤ l.length) (μ := fun j => l.length - j) 0 ⟨(by repeat (first | exact SubE_nil | refine SubE_cons rfl ?_)), rfl, SubR.refl _, rfl⟩ (Nat.zero_le _) ?_
  intro j hj
  by_cases hlt : j < l.length
  · have hlti : (j : Int) < (mkB l).size := by omega
    have hc : (mkB l).data.toList[(j : Int).toNat]? = some l[j] := by rw [mkB_list]; simp
    have ho := on_fn h (crcL 4294967295 (l.take j)) l[j] (crcL_lt (by decide) _)
    rw [← crcL_succ hlt] at ho
    (repeat (first | refine W_seq ?_))
    refine W_region rfl ?_
    refine WL_is (X_lss_t rfl rfl rfl (by omega)) rfl rfl rfl ?_
    (repeat (first | refine WL_nil ?_ | refine Then_normal ?_ | refine W_seq ?_ | refine W_skip ?_ | refine W_block ?_ | refine W_true rfl ?_))
    skip
    refine W_region rfl ?_
    refine WL_is (X_move rfl rfl) rfl rfl rfl ?_
    refine WL_is (X_assign rfl rfl) rfl rfl rfl ?_
    (repeat (first | refine WL_nil ?_ | refine Then_normal ?_))
    skip
    refine W_region rfl ?_
    refine WL_is (X_move rfl rfl) rfl rfl rfl ?_
    refine WL_is (X_move rfl rfl) rfl rfl rfl ?_
    refine WL_is (X_move rfl rfl) rfl rfl rfl ?_
    refine WL_is (X_index_str rfl rfl rfl rfl (by omega) (by assumption)) rfl rfl rfl ?_
    refine WL_is (X_callv rfl rfl rfl Try.func49 rfl (by assumption)) rfl rfl rfl ?_
    refine WL_is (X_assign rfl rfl) rfl rfl rfl ?_
    (repeat (first | refine WL_nil ?_ | refine Then_normal ?_ | refine inBlk_normal ?_))
    skip
    refine W_region rfl ?_
    refine WL_is (X_addW rfl rfl rfl (by exact wrap_i64_in (by omega) (by omega))) rfl rfl rfl ?_
    refine WL_is (X_move rfl rfl) rfl rfl rfl ?_
    (repeat (first | refine WL_nil ?_ | refine Then_normal ?_))
    exact ⟨j + 1, ⟨(by repeat (first | exact SubE_nil | refine SubE_cons rfl ?_)), rfl, SubR.refl _, rfl⟩, by omega, by omega⟩
  · have hlti : ¬ (j : Int) < (mkB l).size := by omega
    rw [List.take_of_length_le (by omega)]
    (repeat (first | refine W_seq ?_))
    refine W_region rfl ?_
    refine WL_is (X_lss_f rfl rfl rfl (by omega)) rfl rfl rfl ?_
    (repeat (first | refine WL_nil ?_ | refine Then_normal ?_ | refine W_seq ?_ | refine W_exit ?_ | refine Then_exit ?_ | refine inBlk_here ?_ | refine W_false rfl ?_))
    skip
    refine W_region rfl ?_
    refine WL_is (X_move rfl rfl) rfl rfl rfl ?_
    refine WL_is (X_cpl rfl rfl) rfl rfl rfl ?_
    refine WL_is (X_assign rfl rfl) rfl rfl rfl ?_
    (repeat (first | refine WL_nil ?_ | refine Then_normal ?_ | refine W_ret ?_))
    refine Body_end rfl rfl rfl (SubR.none _) ?_
    rfl
def sumL (l : Bs) : Int := bits .xor .u32 4294967295 ((crcL 4294967295 l : Nat) : Int)
theorem sumL_eq (l : Bs) : sumL l = ((4294967295 ^^^ crcL 4294967295 l : Nat) : Int) := u32_xor_nat _ _ (by decide) (crcL_lt (by decide) _)
theorem sumL_lt (l : Bs) : 4294967295 ^^^ crcL 4294967295 l < 4294967296 := Nat.xor_lt_two_pow (n := 32) (by decide) (crcL_lt (by decide) _)
theorem sumL_ok (l : Bs) : 0 ≤ sumL l ∧ sumL l ≤ 4294967295 := by
  rw [sumL_eq]
  have := sumL_lt l
  omega
def bucketL (l : Bs) : Int := sumL l % 4
theorem of_fn (h : PH) (l : Bs) (hl : l.length ≤ 1000000) : Does Try.prog 43 [.string (mkB l)] [] h (Ret fun r _ _ => r = .int .u32 (sumL l)) := by
  have hm := more_fn h l hl
  refine Does_of_W Try.func43 rfl (n := 5) rfl rfl (by simp only [argE] <;> rfl) ?_
  (repeat (first | refine W_seq ?_))
  skip
  refine W_region rfl ?_
  refine WL_is (X_assign rfl rfl) rfl rfl rfl ?_
  (repeat (first | refine WL_nil ?_ | refine Then_normal ?_ | refine W_seq ?_))
  skip
  refine W_region rfl ?_
  refine WL_is (X_move rfl rfl) rfl rfl rfl ?_
  refine WL_is (X_callv rfl rfl rfl Try.func47 rfl (by assumption)) rfl rfl rfl ?_
  refine WL_is (X_assign rfl rfl) rfl rfl rfl ?_
  (repeat (first | refine WL_nil ?_ | refine Then_normal ?_ | refine W_ret ?_))
  refine Body_end rfl rfl rfl (SubR.none _) ?_
  rfl
theorem bucket_fn (h : PH) (l : Bs) (hl : l.length ≤ 1000000) : Does Try.prog 33 [.string (mkB l)] [] h (Ret fun r _ _ => r = .int .i64 (bucketL l)) := by
  have hm := of_fn h l hl
  obtain ⟨h0, h1⟩ := sumL_ok l
  unfold bucketL
  refine Does_of_W Try.func33 rfl (n := 7) rfl rfl (by simp only [argE] <;> rfl) ?_
  (repeat (first | refine W_seq ?_))
  skip
  refine W_region rfl ?_
  refine WL_is (X_assign rfl rfl) rfl rfl rfl ?_
  (repeat (first | refine WL_nil ?_ | refine Then_normal ?_ | refine W_seq ?_))
  skip
  refine W_region rfl ?_
  refine WL_is (X_move rfl rfl) rfl rfl rfl ?_
  refine WL_is (X_callv rfl rfl rfl Try.func43 rfl (by assumption)) rfl rfl rfl ?_
  refine WL_is (X_rem rfl rfl rfl (by omega) (by omega)) rfl rfl rfl ?_
  refine WL_is (X_convW rfl rfl rfl rfl (by exact wrap_i64_in (by omega) (by omega))) rfl rfl rfl ?_
  refine WL_is (X_assign rfl rfl) rfl rfl rfl ?_
  (repeat (first | refine WL_nil ?_ | refine Then_normal ?_ | refine W_ret ?_))
  refine Body_end rfl rfl rfl (SubR.none _) ?_
  rfl
theorem x_full (a : Nat) (ha : a < 4294967296) : bits .xor .u32 (a : Int) 4294967295 = bits .xor .u32 4294967295 (a : Int) := by
  have h1 := u32_xor_nat a 4294967295 ha (by decide)
  have h2 := u32_xor_nat 4294967295 a (by decide) ha
  rw [Nat.xor_comm] at h2
  exact h1.trans h2.symm
theorem x_poly (a : Nat) (ha : a < 4294967296) : bits .xor .u32 ((a : Int) / 2) 3988292384 = ((a / 2 ^^^ 3988292384 : Nat) : Int) := by
  have e2 : (a : Int) / 2 = ((a / 2 : Nat) : Int) := by omega
  rw [e2]
  exact u32_xor_nat _ _ (by omega) (by decide)
structure RX where
  j : Nat
set_option maxHeartbeats 400000 in
theorem more_ref (h : PH) (l : Bs) (hl : l.length ≤ 1000000) : Does Try.prog 45 [.int .u32 0, .string (mkB l)] [] h (Ret fun r _ _ => r = .int .u32 (sumL l)) := by
  have hsz := mkB_size l
  have hx : bits .xor .u32 0 4294967295 = 4294967295 := by
    have := u32_xor_nat 0 4294967295 (by decide) (by decide)
    simpa using this
  unfold sumL
  refine Does_of_W Try.func45 rfl (n := 35) rfl rfl (by simp only [argE, Nat.reduceAdd] <;> rfl) ?_
  (repeat (first | refine W_seq ?_))
  skip
  refine W_region rfl ?_
  refine WL_is (X_assign rfl rfl) rfl rfl rfl ?_
  (repeat (first | refine WL_nil ?_ | refine Then_normal ?_ | refine W_seq ?_))
  skip
  refine W_region rfl ?_
  refine WL_is (X_move rfl rfl) rfl rfl rfl ?_
  refine WL_is (X_xor rfl rfl rfl) rfl rfl rfl ?_
  refine WL_is (X_assign rfl rfl) rfl rfl rfl ?_
  (repeat (first | refine WL_nil ?_ | refine Then_normal ?_ | refine W_seq ?_))
  skip
  refine W_region rfl ?_
  refine WL_is (X_assign rfl rfl) rfl rfl rfl ?_
  (repeat (first | refine WL_nil ?_ | refine Then_normal ?_ | refine W_block ?_))
  rw [hx]
  refine W_loop (X := Nat) (L := fun j => ⟨[(5, .int .i64 (j : Int)), (1, .string (mkB l)), (0, .int .u32 ((crcL 4294967295 (l.take j) : Nat) : Int))], [], [], h⟩) (p := fun j => j ≤ l.length) (μ := fun j => l.length - j) 0 ⟨(by repeat (first | exact SubE_nil | refine SubE_cons rfl ?_)), rfl, SubR.refl _, rfl⟩ (Nat.zero_le _) ?_
  intro j hj
  by_cases hlt : j < l.length
  · have hlti : (j : Int) < (mkB l).size := by omega
    have hc : (mkB l).data.toList[(j : Int).toNat]? = some l[j] := by rw [mkB_list]; simp
    have hcl := crcL_lt (c := 4294967295) (by decide) (l.take j)
    have hx2 := u32_xor_nat (crcL 4294967295 (l.take j)) (l[j]).toNat hcl (by have := (l[j]).toNat_lt; omega)
    have hw : IntKind.u32.wrap ((l[j]).toNat : Int) = ((l[j]).toNat : Int) := by rw [IntKind.wrap_u32']; have := (l[j]).toNat_lt; omega
    have hd := x8_lt hcl l[j]
    have hsc := crcL_succ (c := 4294967295) hlt
    unfold on8 at hsc
    generalize hdd : crcL 4294967295 (l.take j) ^^^ (l[j]).toNat = d at *
    (repeat (first | refine W_seq ?_))
    refine W_region rfl ?_
    refine WL_is (X_move rfl rfl) rfl rfl rfl ?_
    refine WL_is (X_move rfl rfl) rfl rfl rfl ?_
    refine WL_is (X_len_str rfl rfl rfl) rfl rfl rfl ?_
    refine WL_is (X_lss_t rfl rfl rfl (by omega)) rfl rfl rfl ?_
    (repeat (first | refine WL_nil ?_ | refine Then_normal ?_ | refine W_seq ?_ | refine W_skip ?_ | refine W_block ?_ | refine W_true rfl ?_))
    skip
    refine W_region rfl ?_
    refine WL_is (X_move rfl rfl) rfl rfl rfl ?_
    refine WL_is (X_move rfl rfl) rfl rfl rfl ?_
    refine WL_is (X_move rfl rfl) rfl rfl rfl ?_
    refine WL_is (X_index_str rfl rfl rfl rfl (by omega) (by assumption)) rfl rfl rfl ?_
    refine WL_is (X_conv rfl rfl rfl rfl) rfl rfl rfl ?_
    refine WL_is (X_xor rfl rfl rfl) rfl rfl rfl ?_
    refine WL_is (X_assign rfl rfl) rfl rfl rfl ?_
    (repeat (first | refine WL_nil ?_ | refine Then_normal ?_ | refine W_seq ?_))
    skip
    refine W_region rfl ?_
    refine WL_is (X_assign rfl rfl) rfl rfl rfl ?_
    (repeat (first | refine WL_nil ?_ | refine Then_normal ?_ | refine W_block ?_))
    rw [hw, hx2]
    refine W_loop (X := Nat) (L := fun k => ⟨[(6, .int .i64 (k : Int)), (0, .int .u32 ((it32 k d : Nat) : Int)), (5, .int .i64 (j : Int)), (1, .string (mkB l))], [], [], h⟩) (p := fun k => k ≤ 8) (μ := fun k => 8 - k) 0 ⟨(by repeat (first | exact SubE_nil | refine SubE_cons rfl ?_)), rfl, SubR.refl _, rfl⟩ (Nat.zero_le _) ?_
    intro k hk
    have hlt2 := it32_lt hd k
    by_cases hk8 : (k : Int) < 8
    · have hp := x_poly _ hlt2
      have hs : it32 (k + 1) d = st32 (it32 k d) := rfl
      unfold st32 at hs
      generalize it32 k d = c at *
      have hwq : IntKind.u32.wrap ((c : Int) / 2) = (c : Int) / 2 := by rw [IntKind.wrap_u32']; omega
      by_cases hodd : c % 2 = 1
      · rw [if_pos hodd] at hs
        have hoi : (c : Int) % 2 = 1 := by omega
        (repeat (first | refine W_seq ?_))
        refine W_region rfl ?_
        refine WL_is (X_move rfl rfl) rfl rfl rfl ?_
        refine WL_is (X_lss_t rfl rfl rfl (by omega)) rfl rfl rfl ?_
        (repeat (first | refine WL_nil ?_ | refine Then_normal ?_ | refine W_seq ?_ | refine W_skip ?_ | refine W_block ?_ | refine W_true rfl ?_))
        skip
        refine W_region rfl ?_
        refine WL_is (X_move rfl rfl) rfl rfl rfl ?_
        refine WL_is (X_rem rfl rfl rfl (by omega) (by omega)) rfl rfl rfl ?_
        refine WL_is (X_eql_t rfl rfl rfl (by omega)) rfl rfl rfl ?_
        (repeat (first | refine WL_nil ?_ | refine Then_normal ?_ | refine W_true rfl ?_))
        skip
        refine W_region rfl ?_
        refine WL_is (X_move rfl rfl) rfl rfl rfl ?_
        refine WL_is (X_quo rfl rfl rfl (by omega) (by omega)) rfl rfl rfl ?_
        refine WL_is (X_xor rfl rfl rfl) rfl rfl rfl ?_
        refine WL_is (X_assign rfl rfl) rfl rfl rfl ?_
        (repeat (first | refine WL_nil ?_ | refine Then_normal ?_ | refine inBlk_normal ?_))
        skip
        refine W_region rfl ?_
        refine WL_is (X_move rfl rfl) rfl rfl rfl ?_
        refine WL_is (X_addW rfl rfl rfl (by exact wrap_i64_in (by omega) (by omega))) rfl rfl rfl ?_
        refine WL_is (X_assign rfl rfl) rfl rfl rfl ?_
        (repeat (first | refine WL_nil ?_ | refine Then_normal ?_))
        rw [hwq, hp]
        refine ⟨k + 1, ⟨?_, rfl, SubR.refl _, rfl⟩, by omega, by omega⟩
        rw [hs]; exact (by repeat (first | exact SubE_nil | refine SubE_cons rfl ?_))
      · rw [if_neg hodd] at hs
        have hoi : ¬ (c : Int) % 2 = 1 := by omega
        have e2 : (c : Int) / 2 = ((c / 2 : Nat) : Int) := by omega
        (repeat (first | refine W_seq ?_))
        refine W_region rfl ?_
        refine WL_is (X_move rfl rfl) rfl rfl rfl ?_
        refine WL_is (X_lss_t rfl rfl rfl (by omega)) rfl rfl rfl ?_
        (repeat (first | refine WL_nil ?_ | refine Then_normal ?_ | refine W_seq ?_ | refine W_skip ?_ | refine W_block ?_ | refine W_true rfl ?_))
        skip
        refine W_region rfl ?_
        refine WL_is (X_move rfl rfl) rfl rfl rfl ?_
        refine WL_is (X_rem rfl rfl rfl (by omega) (by omega)) rfl rfl rfl ?_
        refine WL_is (X_eql_f rfl rfl rfl (by omega)) rfl rfl rfl ?_
        (repeat (first | refine WL_nil ?_ | refine Then_normal ?_ | refine W_false rfl ?_))
        skip
        refine W_region rfl ?_
        refine WL_is (X_move rfl rfl) rfl rfl rfl ?_
        refine WL_is (X_quo rfl rfl rfl (by omega) (by omega)) rfl rfl rfl ?_
        refine WL_is (X_assign rfl rfl) rfl rfl rfl ?_
        (repeat (first | refine WL_nil ?_ | refine Then_normal ?_ | refine inBlk_normal ?_))
        skip
        refine W_region rfl ?_
        refine WL_is (X_move rfl rfl) rfl rfl rfl ?_
        refine WL_is (X_addW rfl rfl rfl (by exact wrap_i64_in (by omega) (by omega))) rfl rfl rfl ?_
        refine WL_is (X_assign rfl rfl) rfl rfl rfl ?_
        (repeat (first | refine WL_nil ?_ | refine Then_normal ?_))
        rw [hwq, e2]
        refine ⟨k + 1, ⟨?_, rfl, SubR.refl _, rfl⟩, by omega, by omega⟩
        rw [hs]; exact (by repeat (first | exact SubE_nil | refine SubE_cons rfl ?_))
    · have : k = 8 := by omega
      subst this
      (repeat (first | refine W_seq ?_))
      refine W_region rfl ?_
      refine WL_is (X_move rfl rfl) rfl rfl rfl ?_
      refine WL_is (X_lss_f rfl rfl rfl (by omega)) rfl rfl rfl ?_
      (repeat (first | refine WL_nil ?_ | refine Then_normal ?_ | refine W_exit ?_ | refine Then_exit ?_ | refine inBlk_normal ?_ | refine inBlk_here ?_ | refine W_false rfl ?_))
      skip
      refine W_region rfl ?_
      refine WL_is (X_move rfl rfl) rfl rfl rfl ?_
      refine WL_is (X_addW rfl rfl rfl (by exact wrap_i64_in (by omega) (by omega))) rfl rfl rfl ?_
      refine WL_is (X_assign rfl rfl) rfl rfl rfl ?_
      (repeat (first | refine WL_nil ?_ | refine Then_normal ?_))
      refine ⟨j + 1, ⟨?_, rfl, SubR.refl _, rfl⟩, by omega, by omega⟩
      rw [hsc]; exact (by repeat (first | exact SubE_nil | refine SubE_cons rfl ?_))
  · have hlti : ¬ (j : Int) < (mkB l).size := by omega
    have hcl := crcL_lt (c := 4294967295) (by decide) l
    have hxf := x_full _ hcl
    rw [List.take_of_length_le (by omega)]
    (repeat (first | refine W_seq ?_))
    refine W_region rfl ?_
    refine WL_is (X_move rfl rfl) rfl rfl rfl ?_
    refine WL_is (X_move rfl rfl) rfl rfl rfl ?_
    refine WL_is (X_len_str rfl rfl rfl) rfl rfl rfl ?_
    refine WL_is (X_lss_f rfl rfl rfl (by omega)) rfl rfl rfl ?_
    (repeat (first | refine WL_nil ?_ | refine Then_normal ?_ | refine W_seq ?_ | refine W_exit ?_ | refine Then_exit ?_ | refine inBlk_here ?_ | refine W_false rfl ?_))
    skip
    refine W_region rfl ?_
    refine WL_is (X_move rfl rfl) rfl rfl rfl ?_
    refine WL_is (X_xor rfl rfl rfl) rfl rfl rfl ?_
    refine WL_is (X_assign rfl rfl) rfl rfl rfl ?_
    (repeat (first | refine WL_nil ?_ | refine Then_normal ?_ | refine W_ret ?_))
    refine Body_end rfl rfl rfl (SubR.none _) ?_
    rw [hxf]
theorem of_ref (h : PH) (l : Bs) (hl : l.length ≤ 1000000) : Does Try.prog 40 [.string (mkB l)] [] h (Ret fun r _ _ => r = .int .u32 (sumL l)) := by
  have hm := more_ref h l hl
  refine Does_of_W Try.func40 rfl (n := 5) rfl rfl (by simp only [argE] <;> rfl) ?_
  (repeat (first | refine W_seq ?_))
  skip
  refine W_region rfl ?_
  refine WL_is (X_assign rfl rfl) rfl rfl rfl ?_
  (repeat (first | refine WL_nil ?_ | refine Then_normal ?_ | refine W_seq ?_))
  skip
  refine W_region rfl ?_
  refine WL_is (X_move rfl rfl) rfl rfl rfl ?_
  refine WL_is (X_callv rfl rfl rfl Try.func45 rfl (by assumption)) rfl rfl rfl ?_
  refine WL_is (X_assign rfl rfl) rfl rfl rfl ?_
  (repeat (first | refine WL_nil ?_ | refine Then_normal ?_ | refine W_ret ?_))
  refine Body_end rfl rfl rfl (SubR.none _) ?_
  rfl
theorem bucket_ref (h : PH) (l : Bs) (hl : l.length ≤ 1000000) : Does Try.prog 29 [.string (mkB l)] [] h (Ret fun r _ _ => r = .int .i64 (bucketL l)) := by
  have hm := of_ref h l hl
  obtain ⟨h0, h1⟩ := sumL_ok l
  unfold bucketL
  refine Does_of_W Try.func29 rfl (n := 7) rfl rfl (by simp only [argE] <;> rfl) ?_
  (repeat (first | refine W_seq ?_))
  skip
  refine W_region rfl ?_
  refine WL_is (X_assign rfl rfl) rfl rfl rfl ?_
  (repeat (first | refine WL_nil ?_ | refine Then_normal ?_ | refine W_seq ?_))
  skip
  refine W_region rfl ?_
  refine WL_is (X_move rfl rfl) rfl rfl rfl ?_
  refine WL_is (X_callv rfl rfl rfl Try.func40 rfl (by assumption)) rfl rfl rfl ?_
  refine WL_is (X_rem rfl rfl rfl (by omega) (by omega)) rfl rfl rfl ?_
  refine WL_is (X_convW rfl rfl rfl rfl (by exact wrap_i64_in (by omega) (by omega))) rfl rfl rfl ?_
  refine WL_is (X_assign rfl rfl) rfl rfl rfl ?_
  (repeat (first | refine WL_nil ?_ | refine Then_normal ?_ | refine W_ret ?_))
  refine Body_end rfl rfl rfl (SubR.none _) ?_
  rfl
end Go.Proofs.Ytgpanbmjmpondaa
