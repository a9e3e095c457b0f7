/- Files: a text's pieces, one behind the other. -/
import Derived.Test.YtoocbfpomamdeaaFileB
import Derived.Test.YtoocbfpomamdeaaEngS
namespace Go.Proofs.Ytoocbfpomamdeaa
set_option maxRecDepth 4000
open Go Go.Par PH
def stP (off j : Nat) : Nat := if j = 0 then 0 else 8 * j - off % 8
def cntP (off len : Nat) : Nat := if len = 0 then 0 else (off % 8 + len + 7) / 8
def txtP (off : Nat) (s : ByteArray) (j : Nat) : ByteArray := s.extract (stP off j) (min s.size (stP off (j + 1)))
def argP (off : Nat) (s : ByteArray) (j : Nat) : List Value := [.int .i64 ((off + stP off j : Nat) : Int), .string (txtP off s j)]
theorem stP_succ (off j : Nat) : stP off (j + 1) = 8 * j + 8 - off % 8 := by simp [stP]; omega
theorem stP_lt {off len j : Nat} (h : j < cntP off len) : stP off j < len ∧ stP off j < stP off (j + 1) ∧ stP off (j + 1) = stP off j + (8 - (off + stP off j) % 8) := by
  rw [stP_succ]
  unfold cntP at h
  unfold stP
  split at h
  · omega
  · split <;> omega
theorem stP_ge {off len j : Nat} (h : cntP off len ≤ j) : len ≤ stP off j := by
  unfold cntP at h
  unfold stP
  split at h
  · omega
  · split <;> omega
theorem ne_empty {s : ByteArray} (h : 0 < s.size) : (s == (⟨#[]⟩ : ByteArray)) = false := by
  cases he : (s == (⟨#[]⟩ : ByteArray)) with
  | false => rfl
  | true =>
    have e : s = (⟨#[]⟩ : ByteArray) := ByteArray.ext (eq_of_beq (α := Array UInt8) he)
    rw [e] at h; exact absurd h (by decide)
structure CX where
  j : Nat
  h : PH
attribute [local irreducible] W WL Does Exec Body Then inBlk RG WR row obj pblk
set_option maxHeartbeats 1000000 in
theorem cuts_iter (h : PH) (p q : Value) (off : Nat) (s : ByteArray) (hp : At h p [.int .i64 (off : Int)]) (hq : At h q [.string s]) (hb : off + s.size ≤ 100000000) : Iter Try.prog 28 [p, q] [] (cntP off s.size) (argP off s) h := by
  intro l T Tx hY
  refine Does_of_W Try.func28 rfl (n := 30) rfl rfl (by simp only [argE, Nat.reduceAdd] <;> rfl) ?_
  (repeat (first | refine WL_nil ?_ | refine WR_succ ?_ | refine Then_normal ?_ | refine W_seq ?_ | refine W_skip ?_ | refine W_ret ?_ | refine W_exit ?_ | refine W_block ?_ | refine Then_ret ?_ | refine Then_panic ?_ | refine inBlk_panic ?_ | refine Then_exit ?_ | refine inBlk_ret ?_ | refine inBlk_normal ?_ | refine inBlk_here ?_ | refine inBlk_out rfl ?_ | refine W_scope ?_ | refine W_label ?_ | refine noG_ret ?_ | refine noG_normal ?_ | refine noG_exit ?_ | refine W_true rfl ?_ | refine W_false rfl ?_))
  (repeat (first | refine WL_nil ?_ | refine WR_succ ?_ | refine Then_normal ?_ | refine W_seq ?_ | refine W_skip ?_ | refine W_ret ?_ | refine W_exit ?_ | refine W_block ?_ | refine Then_ret ?_ | refine Then_panic ?_ | refine inBlk_panic ?_ | refine Then_exit ?_ | refine inBlk_ret ?_ | refine inBlk_normal ?_ | refine inBlk_here ?_ | refine inBlk_out rfl ?_ | refine W_scope ?_ | refine W_label ?_ | refine noG_ret ?_ | refine noG_normal ?_ | refine noG_exit ?_ | refine W_true rfl ?_ | refine W_false rfl ?_))
  refine W_region rfl ?_
  (first | refine WL_is (X_load1 rfl rfl (by first | exact idx0 | exact idx1 | exact idx2 | exact idx3 | exact idx4 | exact idx5 | exact idx6 | exact idx7) rfl rfl) rfl rfl rfl ?_ | refine WL_is (X_loadA rfl rfl (by first | exact idx0 | exact idx1 | exact idx2 | exact idx3 | exact idx4 | exact idx5 | exact idx6 | exact idx7) rfl rfl rfl) rfl rfl rfl ?_ | refine WL_is (X_load1_at rfl rfl (by assumption) rfl rfl) rfl rfl rfl ?_ | refine WL_is (X_load1 rfl rfl (by first | exact idx0 | exact idx1 | exact idx2 | exact idx3 | exact idx4 | exact idx5 | exact idx6 | exact idx7) rfl (by assumption)) rfl rfl rfl ?_ | refine WL_is (X_loadA_at rfl rfl (by assumption) rfl rfl rfl) rfl rfl rfl ?_ | refine WL_is (X_load_spot rfl rfl (by first | exact idx0 | exact idx1 | exact idx2 | exact idx3 | exact idx4 | exact idx5 | exact idx6 | exact idx7) (by first | rfl | omega | (simp only [List.length_set]; first | done | omega)) rfl (by first | omega | (simp only [List.length_set]; omega)) rfl) rfl rfl rfl ?_ | refine WL_is (X_loadAll (sz := 1) rfl rfl (by first | exact idx0 | exact idx1 | exact idx2 | exact idx3 | exact idx4 | exact idx5 | exact idx6 | exact idx7) rfl rfl (by simp only [List.length_map, List.length_set]; omega)) rfl rfl rfl ?_ | refine WL_is (X_loadA_spot rfl rfl (by first | exact idx0 | exact idx1 | exact idx2 | exact idx3 | exact idx4 | exact idx5 | exact idx6 | exact idx7) (by first | rfl | omega | (simp only [List.length_set]; first | done | omega)) rfl rfl rfl (by first | omega | (simp only [List.length_set]; omega)) rfl) rfl rfl rfl ?_)
  (first | refine WL_is (X_assign rfl rfl) rfl rfl rfl ?_)
  (repeat (first | refine WL_nil ?_ | refine WR_succ ?_ | refine Then_normal ?_ | refine W_seq ?_ | refine W_skip ?_ | refine W_ret ?_ | refine W_exit ?_ | refine W_block ?_ | refine Then_ret ?_ | refine Then_panic ?_ | refine inBlk_panic ?_ | refine Then_exit ?_ | refine inBlk_ret ?_ | refine inBlk_normal ?_ | refine inBlk_here ?_ | refine inBlk_out rfl ?_ | refine W_scope ?_ | refine W_label ?_ | refine noG_ret ?_ | refine noG_normal ?_ | refine noG_exit ?_ | refine W_true rfl ?_ | refine W_false rfl ?_))
  (repeat (first | refine WL_nil ?_ | refine WR_succ ?_ | refine Then_normal ?_ | refine W_seq ?_ | refine W_skip ?_ | refine W_ret ?_ | refine W_exit ?_ | refine W_block ?_ | refine Then_ret ?_ | refine Then_panic ?_ | refine inBlk_panic ?_ | refine Then_exit ?_ | refine inBlk_ret ?_ | refine inBlk_normal ?_ | refine inBlk_here ?_ | refine inBlk_out rfl ?_ | refine W_scope ?_ | refine W_label ?_ | refine noG_ret ?_ | refine noG_normal ?_ | refine noG_exit ?_ | refine W_true rfl ?_ | refine W_false rfl ?_))
  refine W_region rfl ?_
  (first | refine WL_is (X_load1 rfl rfl (by first | exact idx0 | exact idx1 | exact idx2 | exact idx3 | exact idx4 | exact idx5 | exact idx6 | exact idx7) rfl rfl) rfl rfl rfl ?_ | refine WL_is (X_loadA rfl rfl (by first | exact idx0 | exact idx1 | exact idx2 | exact idx3 | exact idx4 | exact idx5 | exact idx6 | exact idx7) rfl rfl rfl) rfl rfl rfl ?_ | refine WL_is (X_load1_at rfl rfl (by assumption) rfl rfl) rfl rfl rfl ?_ | refine WL_is (X_load1 rfl rfl (by first | exact idx0 | exact idx1 | exact idx2 | exact idx3 | exact idx4 | exact idx5 | exact idx6 | exact idx7) rfl (by assumption)) rfl rfl rfl ?_ | refine WL_is (X_loadA_at rfl rfl (by assumption) rfl rfl rfl) rfl rfl rfl ?_ | refine WL_is (X_load_spot rfl rfl (by first | exact idx0 | exact idx1 | exact idx2 | exact idx3 | exact idx4 | exact idx5 | exact idx6 | exact idx7) (by first | rfl | omega | (simp only [List.length_set]; first | done | omega)) rfl (by first | omega | (simp only [List.length_set]; omega)) rfl) rfl rfl rfl ?_ | refine WL_is (X_loadAll (sz := 1) rfl rfl (by first | exact idx0 | exact idx1 | exact idx2 | exact idx3 | exact idx4 | exact idx5 | exact idx6 | exact idx7) rfl rfl (by simp only [List.length_map, List.length_set]; omega)) rfl rfl rfl ?_ | refine WL_is (X_loadA_spot rfl rfl (by first | exact idx0 | exact idx1 | exact idx2 | exact idx3 | exact idx4 | exact idx5 | exact idx6 | exact idx7) (by first | rfl | omega | (simp only [List.length_set]; first | done | omega)) rfl rfl rfl (by first | omega | (simp only [List.length_set]; omega)) rfl) rfl rfl rfl ?_)
  (first | refine WL_is (X_assign rfl rfl) rfl rfl rfl ?_)
  (repeat (first | refine WL_nil ?_ | refine WR_succ ?_ | refine Then_normal ?_ | refine W_seq ?_ | refine W_skip ?_ | refine W_ret ?_ | refine W_exit ?_ | refine W_block ?_ | refine Then_ret ?_ | refine Then_panic ?_ | refine inBlk_panic ?_ | refine Then_exit ?_ | refine inBlk_ret ?_ | refine inBlk_normal ?_ | refine inBlk_here ?_ | refine inBlk_out rfl ?_ | refine W_scope ?_ | refine W_label ?_ | refine noG_ret ?_ | refine noG_normal ?_ | refine noG_exit ?_ | refine W_true rfl ?_ | refine W_false rfl ?_))
  refine W_loop (X := CX) (L := fun x => ⟨[(4, .int .i64 ((off + min (stP off x.j) s.size : Nat) : Int)), (5, .string (s.extract (stP off x.j) s.size)), (0, .func (.yield l) #[] #[])], [], [T x.j], x.h⟩) (p := fun x => x.j ≤ cntP off s.size ∧ le h x.h) (μ := fun x => cntP off s.size - x.j) ⟨0, h⟩ ⟨?_, rfl, SubR.refl _, rfl⟩ ⟨Nat.zero_le _, le.refl _⟩ ?_
  · have e0 : stP off 0 = 0 := rfl
    simp only [e0, Nat.zero_min, Nat.add_zero, ByteArray.extract_zero_size]
    exact (by repeat (first | exact SubE_nil | refine SubE_cons rfl ?_))
  · rintro ⟨j, h1⟩ ⟨hj, hle⟩
    dsimp only at hj hle ⊢
    by_cases hlt : j < cntP off s.size
    · obtain ⟨g1, g2, g3⟩ := stP_lt hlt
      have hsz : (s.extract (stP off j) s.size).size = s.size - stP off j := by rw [ByteArray.size_extract, Nat.min_self]
      have hne := ne_empty (s := s.extract (stP off j) s.size) (by omega)
      rw [Nat.min_eq_left (by omega)]
      (repeat (first | refine WL_nil ?_ | refine WR_succ ?_ | refine Then_normal ?_ | refine W_seq ?_ | refine W_skip ?_ | refine W_ret ?_ | refine W_exit ?_ | refine W_block ?_ | refine Then_ret ?_ | refine Then_panic ?_ | refine inBlk_panic ?_ | refine Then_exit ?_ | refine inBlk_ret ?_ | refine inBlk_normal ?_ | refine inBlk_here ?_ | refine inBlk_out rfl ?_ | refine W_scope ?_ | refine W_label ?_ | refine noG_ret ?_ | refine noG_normal ?_ | refine noG_exit ?_ | refine W_true rfl ?_ | refine W_false rfl ?_))
      refine W_region rfl ?_
      (first | refine WL_is (X_move rfl rfl) rfl rfl rfl ?_)
      (first | refine WL_is (X_neq_t rfl rfl rfl (by omega)) rfl rfl rfl ?_ | refine WL_is (X_neq_f rfl rfl rfl (by omega)) rfl rfl rfl ?_ | refine WL_is (X_neq rfl rfl rfl) rfl rfl rfl ?_ | refine WL_is (X_neB rfl rfl rfl rfl) rfl rfl rfl ?_ | refine WL_is (X_neNil rfl rfl rfl rfl) rfl rfl rfl ?_ | refine WL_is (X_nePn_t rfl rfl rfl rfl) rfl rfl rfl ?_ | refine WL_is (X_nePn_f rfl rfl rfl rfl) rfl rfl rfl ?_ | refine WL_is (X_neS_c rfl rfl rfl (by assumption)) rfl rfl rfl ?_ | refine WL_is (X_neS rfl rfl rfl) rfl rfl rfl ?_ | refine WL_is (X_neA 8 heldOk guardOk rfl rfl rfl rfl rfl rfl rfl) rfl rfl rfl ?_)
      (repeat (first | refine WL_nil ?_ | refine WR_succ ?_ | refine Then_normal ?_ | refine W_seq ?_ | refine W_skip ?_ | refine W_ret ?_ | refine W_exit ?_ | refine W_block ?_ | refine Then_ret ?_ | refine Then_panic ?_ | refine inBlk_panic ?_ | refine Then_exit ?_ | refine inBlk_ret ?_ | refine inBlk_normal ?_ | refine inBlk_here ?_ | refine inBlk_out rfl ?_ | refine W_scope ?_ | refine W_label ?_ | refine noG_ret ?_ | refine noG_normal ?_ | refine noG_exit ?_ | refine W_true rfl ?_ | refine W_false rfl ?_))
      obtain ⟨nn, hnn⟩ : ∃ nn, nn = min (s.size - stP off j) (8 - (off + stP off j) % 8) := ⟨_, rfl⟩
      have hn : min ((s.extract (stP off j) s.size).size : Int) (8 - ((off + stP off j : Nat) : Int) % 8) = (nn : Int) := by rw [hsz]; omega
      have ht : (s.extract (stP off j) s.size).extract 0 ((nn : Int)).toNat = txtP off s j := by
        unfold txtP
        rw [ByteArray.extract_extract, Int.toNat_natCast]
        congr 1; omega
      have hn' : ((nn : Int)).toNat ≤ (s.extract (stP off j) s.size).size := by rw [hsz]; omega
      have hn'' : (nn : Int) ≤ (s.extract (stP off j) s.size).size := by omega
      have hl2 : (s.extract (stP off j) s.size).extract ((nn : Int)).toNat (s.extract (stP off j) s.size).size = s.extract (stP off (j + 1)) s.size := by
        rw [ByteArray.extract_extract, Int.toNat_natCast, hsz]
        by_cases hc : stP off (j + 1) ≤ s.size
        · congr 1 <;> omega
        · rw [ByteArray.extract_eq_empty_iff.2 (by omega), ByteArray.extract_eq_empty_iff.2 (by omega)]
      have ha2 : ((off + stP off j : Nat) : Int) + (nn : Int) = ((off + min (stP off (j + 1)) s.size : Nat) : Int) := by omega
      (repeat (first | refine WL_nil ?_ | refine WR_succ ?_ | refine Then_normal ?_ | refine W_seq ?_ | refine W_skip ?_ | refine W_ret ?_ | refine W_exit ?_ | refine W_block ?_ | refine Then_ret ?_ | refine Then_panic ?_ | refine inBlk_panic ?_ | refine Then_exit ?_ | refine inBlk_ret ?_ | refine inBlk_normal ?_ | refine inBlk_here ?_ | refine inBlk_out rfl ?_ | refine W_scope ?_ | refine W_label ?_ | refine noG_ret ?_ | refine noG_normal ?_ | refine noG_exit ?_ | refine W_true rfl ?_ | refine W_false rfl ?_))
      refine W_region rfl ?_
      (first | refine WL_is (X_move rfl rfl) rfl rfl rfl ?_)
      (first | refine WL_is (X_len_sl rfl rfl rfl (by assumption)) rfl rfl rfl ?_ | refine WL_is (X_len rfl rfl rfl) rfl rfl rfl ?_ | refine WL_is (X_len_str rfl rfl rfl) rfl rfl rfl ?_)
      (first | refine WL_is (X_move rfl rfl) rfl rfl rfl ?_)
      (first | refine WL_is (X_rem rfl rfl rfl (by omega) (by omega)) rfl rfl rfl ?_)
      (first | refine WL_is (X_subW rfl rfl rfl (by refine wrapL (by simp only [Int.reduceSub] <;> rfl) ?_; decide)) rfl rfl rfl ?_ | refine WL_is (X_subW rfl rfl rfl (by first | exact wrap_i64_in (by omega) (by omega) | exact wrap_u16_in (by omega) (by omega) | exact wrap_u8_in (by omega) (by omega) | exact wrap_u64_in (by omega) (by omega))) rfl rfl rfl ?_ | refine WL_is (X_sub rfl rfl rfl) rfl rfl rfl ?_)
      (first | refine WL_is (X_min rfl rfl rfl) rfl rfl rfl ?_)
      (first | refine WL_is (X_assign rfl rfl) rfl rfl rfl ?_)
      (repeat (first | refine WL_nil ?_ | refine WR_succ ?_ | refine Then_normal ?_ | refine W_seq ?_ | refine W_skip ?_ | refine W_ret ?_ | refine W_exit ?_ | refine W_block ?_ | refine Then_ret ?_ | refine Then_panic ?_ | refine inBlk_panic ?_ | refine Then_exit ?_ | refine inBlk_ret ?_ | refine inBlk_normal ?_ | refine inBlk_here ?_ | refine inBlk_out rfl ?_ | refine W_scope ?_ | refine W_label ?_ | refine noG_ret ?_ | refine noG_normal ?_ | refine noG_exit ?_ | refine W_true rfl ?_ | refine W_false rfl ?_))
      rw [hn]
      (repeat (first | refine WL_nil ?_ | refine WR_succ ?_ | refine Then_normal ?_ | refine W_seq ?_ | refine W_skip ?_ | refine W_ret ?_ | refine W_exit ?_ | refine W_block ?_ | refine Then_ret ?_ | refine Then_panic ?_ | refine inBlk_panic ?_ | refine Then_exit ?_ | refine inBlk_ret ?_ | refine inBlk_normal ?_ | refine inBlk_here ?_ | refine inBlk_out rfl ?_ | refine W_scope ?_ | refine W_label ?_ | refine noG_ret ?_ | refine noG_normal ?_ | refine noG_exit ?_ | refine W_true rfl ?_ | refine W_false rfl ?_))
      refine W_region rfl ?_
      (first | refine WL_is (X_move rfl rfl) rfl rfl rfl ?_)
      (first | refine WL_is (X_move rfl rfl) rfl rfl rfl ?_)
      (first | refine WL_is (X_move rfl rfl) rfl rfl rfl ?_)
      (first | refine WL_is (X_move rfl rfl) rfl rfl rfl ?_)
      (first | refine WL_is (X_sliceArr rfl rfl rfl rfl) rfl rfl rfl ?_ | refine WL_is (X_sliceS_hi rfl rfl rfl rfl (by first | omega | assumption) (by first | omega | assumption)) rfl rfl rfl ?_ | refine WL_is (X_sliceS_lo rfl rfl rfl rfl (by first | omega | assumption) (by first | omega | assumption)) rfl rfl rfl ?_ | refine WL_is (X_sliceS rfl rfl rfl rfl rfl (by first | omega | assumption) (by first | omega | assumption) (by first | omega | assumption)) rfl rfl rfl ?_ | refine WL_is (X_sliceArrLo (sz := 1) rfl rfl rfl rfl rfl (by omega) (by omega)) rfl rfl rfl ?_ | refine WL_is (X_sliceLo (sz := 1) rfl rfl rfl rfl rfl (by omega) (by omega)) rfl rfl rfl ?_ | refine WL_is (X_sliceHi (sz := 1) rfl rfl rfl rfl rfl (by omega)) rfl rfl rfl ?_ | refine WL_is (X_sliceLo (sz := 2) rfl rfl rfl rfl rfl (by omega) (by omega)) rfl rfl rfl ?_ | refine WL_is (X_sliceHi (sz := 2) rfl rfl rfl rfl rfl (by omega)) rfl rfl rfl ?_ | refine WL_is (X_sliceLoG (sz := 1) rfl rfl rfl rfl rfl (by omega)) rfl rfl rfl ?_ | refine WL_is (X_sliceHiG (sz := 1) rfl rfl rfl rfl rfl (by omega)) rfl rfl rfl ?_)
      rw [ht]
      refine WL_yield [T j] [] rfl rfl rfl rfl rfl rfl (.refl _) (hY j h1 hlt hle) ?_
      rintro v _ h2 hle2 (⟨rfl, rfl⟩ | ⟨rfl, rfl⟩)
      · simp only [List.append_nil]
        (first | refine WL_is (X_not rfl rfl) rfl rfl rfl ?_)
        (repeat (first | refine WL_nil ?_ | refine WR_succ ?_ | refine Then_normal ?_ | refine W_seq ?_ | refine W_skip ?_ | refine W_ret ?_ | refine W_exit ?_ | refine W_block ?_ | refine Then_ret ?_ | refine Then_panic ?_ | refine inBlk_panic ?_ | refine Then_exit ?_ | refine inBlk_ret ?_ | refine inBlk_normal ?_ | refine inBlk_here ?_ | refine inBlk_out rfl ?_ | refine W_scope ?_ | refine W_label ?_ | refine noG_ret ?_ | refine noG_normal ?_ | refine noG_exit ?_ | refine W_true rfl ?_ | refine W_false rfl ?_))
        (repeat (first | refine WL_nil ?_ | refine WR_succ ?_ | refine Then_normal ?_ | refine W_seq ?_ | refine W_skip ?_ | refine W_ret ?_ | refine W_exit ?_ | refine W_block ?_ | refine Then_ret ?_ | refine Then_panic ?_ | refine inBlk_panic ?_ | refine Then_exit ?_ | refine inBlk_ret ?_ | refine inBlk_normal ?_ | refine inBlk_here ?_ | refine inBlk_out rfl ?_ | refine W_scope ?_ | refine W_label ?_ | refine noG_ret ?_ | refine noG_normal ?_ | refine noG_exit ?_ | refine W_true rfl ?_ | refine W_false rfl ?_))
        refine W_region rfl ?_
        (first | refine WL_is (X_move rfl rfl) rfl rfl rfl ?_)
        (first | refine WL_is (X_move rfl rfl) rfl rfl rfl ?_)
        (first | refine WL_is (X_addW rfl rfl rfl (by refine wrapL (by simp only [Int.reduceAdd] <;> rfl) ?_; decide)) rfl rfl rfl ?_ | refine WL_is (X_addW rfl rfl rfl (by first | exact wrap_i64_in (by omega) (by omega) | exact wrap_u16_in (by omega) (by omega) | exact wrap_u8_in (by omega) (by omega) | exact wrap_u64_in (by omega) (by omega))) rfl rfl rfl ?_ | refine WL_is (X_add rfl rfl rfl) rfl rfl rfl ?_ | refine WL_is (X_addS rfl rfl rfl (by omega)) rfl rfl rfl ?_)
        (first | refine WL_is (X_assign rfl rfl) rfl rfl rfl ?_)
        (repeat (first | refine WL_nil ?_ | refine WR_succ ?_ | refine Then_normal ?_ | refine W_seq ?_ | refine W_skip ?_ | refine W_ret ?_ | refine W_exit ?_ | refine W_block ?_ | refine Then_ret ?_ | refine Then_panic ?_ | refine inBlk_panic ?_ | refine Then_exit ?_ | refine inBlk_ret ?_ | refine inBlk_normal ?_ | refine inBlk_here ?_ | refine inBlk_out rfl ?_ | refine W_scope ?_ | refine W_label ?_ | refine noG_ret ?_ | refine noG_normal ?_ | refine noG_exit ?_ | refine W_true rfl ?_ | refine W_false rfl ?_))
        (repeat (first | refine WL_nil ?_ | refine WR_succ ?_ | refine Then_normal ?_ | refine W_seq ?_ | refine W_skip ?_ | refine W_ret ?_ | refine W_exit ?_ | refine W_block ?_ | refine Then_ret ?_ | refine Then_panic ?_ | refine inBlk_panic ?_ | refine Then_exit ?_ | refine inBlk_ret ?_ | refine inBlk_normal ?_ | refine inBlk_here ?_ | refine inBlk_out rfl ?_ | refine W_scope ?_ | refine W_label ?_ | refine noG_ret ?_ | refine noG_normal ?_ | refine noG_exit ?_ | refine W_true rfl ?_ | refine W_false rfl ?_))
        refine W_region rfl ?_
        (first | refine WL_is (X_move rfl rfl) rfl rfl rfl ?_)
        (first | refine WL_is (X_move rfl rfl) rfl rfl rfl ?_)
        (first | refine WL_is (X_sliceArr rfl rfl rfl rfl) rfl rfl rfl ?_ | refine WL_is (X_sliceS_hi rfl rfl rfl rfl (by first | omega | assumption) (by first | omega | assumption)) rfl rfl rfl ?_ | refine WL_is (X_sliceS_lo rfl rfl rfl rfl (by first | omega | assumption) (by first | omega | assumption)) rfl rfl rfl ?_ | refine WL_is (X_sliceS rfl rfl rfl rfl rfl (by first | omega | assumption) (by first | omega | assumption) (by first | omega | assumption)) rfl rfl rfl ?_ | refine WL_is (X_sliceArrLo (sz := 1) rfl rfl rfl rfl rfl (by omega) (by omega)) rfl rfl rfl ?_ | refine WL_is (X_sliceLo (sz := 1) rfl rfl rfl rfl rfl (by omega) (by omega)) rfl rfl rfl ?_ | refine WL_is (X_sliceHi (sz := 1) rfl rfl rfl rfl rfl (by omega)) rfl rfl rfl ?_ | refine WL_is (X_sliceLo (sz := 2) rfl rfl rfl rfl rfl (by omega) (by omega)) rfl rfl rfl ?_ | refine WL_is (X_sliceHi (sz := 2) rfl rfl rfl rfl rfl (by omega)) rfl rfl rfl ?_ | refine WL_is (X_sliceLoG (sz := 1) rfl rfl rfl rfl rfl (by omega)) rfl rfl rfl ?_ | refine WL_is (X_sliceHiG (sz := 1) rfl rfl rfl rfl rfl (by omega)) rfl rfl rfl ?_)
        (first | refine WL_is (X_assign rfl rfl) rfl rfl rfl ?_)
        (repeat (first | refine WL_nil ?_ | refine WR_succ ?_ | refine Then_normal ?_ | refine W_seq ?_ | refine W_skip ?_ | refine W_ret ?_ | refine W_exit ?_ | refine W_block ?_ | refine Then_ret ?_ | refine Then_panic ?_ | refine inBlk_panic ?_ | refine Then_exit ?_ | refine inBlk_ret ?_ | refine inBlk_normal ?_ | refine inBlk_here ?_ | refine inBlk_out rfl ?_ | refine W_scope ?_ | refine W_label ?_ | refine noG_ret ?_ | refine noG_normal ?_ | refine noG_exit ?_ | refine W_true rfl ?_ | refine W_false rfl ?_))
        rw [hl2]
        refine ⟨⟨j + 1, h2⟩, ⟨?_, rfl, SubR.refl _, rfl⟩, ⟨hlt, hle.trans hle2⟩, by dsimp only; omega⟩
        dsimp only
        rw [← ha2]
        exact (by repeat (first | exact SubE_nil | refine SubE_cons rfl ?_))
      · simp only [List.append_nil]
        (first | refine WL_is (X_not rfl rfl) rfl rfl rfl ?_)
        (repeat (first | refine WL_nil ?_ | refine WR_succ ?_ | refine Then_normal ?_ | refine W_seq ?_ | refine W_skip ?_ | refine W_ret ?_ | refine W_exit ?_ | refine W_block ?_ | refine Then_ret ?_ | refine Then_panic ?_ | refine inBlk_panic ?_ | refine Then_exit ?_ | refine inBlk_ret ?_ | refine inBlk_normal ?_ | refine inBlk_here ?_ | refine inBlk_out rfl ?_ | refine W_scope ?_ | refine W_label ?_ | refine noG_ret ?_ | refine noG_normal ?_ | refine noG_exit ?_ | refine W_true rfl ?_ | refine W_false rfl ?_))
        exact Body_end rfl rfl rfl (SubR.refl _) (.inr ⟨j, hlt, [], rfl⟩)
    · have hjN : j = cntP off s.size := by omega
      subst hjN
      have g1 := stP_ge (off := off) (Nat.le_refl (cntP off s.size))
      have he : s.extract (stP off (cntP off s.size)) s.size = (⟨#[]⟩ : ByteArray) := ByteArray.extract_eq_empty_iff.2 (by omega)
      rw [he]
      have hne : ((⟨#[]⟩ : ByteArray) == (⟨#[]⟩ : ByteArray)) = true := rfl
      (repeat (first | refine WL_nil ?_ | refine WR_succ ?_ | refine Then_normal ?_ | refine W_seq ?_ | refine W_skip ?_ | refine W_ret ?_ | refine W_exit ?_ | refine W_block ?_ | refine Then_ret ?_ | refine Then_panic ?_ | refine inBlk_panic ?_ | refine Then_exit ?_ | refine inBlk_ret ?_ | refine inBlk_normal ?_ | refine inBlk_here ?_ | refine inBlk_out rfl ?_ | refine W_scope ?_ | refine W_label ?_ | refine noG_ret ?_ | refine noG_normal ?_ | refine noG_exit ?_ | refine W_true rfl ?_ | refine W_false rfl ?_))
      refine W_region rfl ?_
      (first | refine WL_is (X_move rfl rfl) rfl rfl rfl ?_)
      (first | refine WL_is (X_neq_t rfl rfl rfl (by omega)) rfl rfl rfl ?_ | refine WL_is (X_neq_f rfl rfl rfl (by omega)) rfl rfl rfl ?_ | refine WL_is (X_neq rfl rfl rfl) rfl rfl rfl ?_ | refine WL_is (X_neB rfl rfl rfl rfl) rfl rfl rfl ?_ | refine WL_is (X_neNil rfl rfl rfl rfl) rfl rfl rfl ?_ | refine WL_is (X_nePn_t rfl rfl rfl rfl) rfl rfl rfl ?_ | refine WL_is (X_nePn_f rfl rfl rfl rfl) rfl rfl rfl ?_ | refine WL_is (X_neS_c rfl rfl rfl (by assumption)) rfl rfl rfl ?_ | refine WL_is (X_neS rfl rfl rfl) rfl rfl rfl ?_ | refine WL_is (X_neA 8 heldOk guardOk rfl rfl rfl rfl rfl rfl rfl) rfl rfl rfl ?_)
      (repeat (first | refine WL_nil ?_ | refine WR_succ ?_ | refine Then_normal ?_ | refine W_seq ?_ | refine W_skip ?_ | refine W_ret ?_ | refine W_exit ?_ | refine W_block ?_ | refine Then_ret ?_ | refine Then_panic ?_ | refine inBlk_panic ?_ | refine Then_exit ?_ | refine inBlk_ret ?_ | refine inBlk_normal ?_ | refine inBlk_here ?_ | refine inBlk_out rfl ?_ | refine W_scope ?_ | refine W_label ?_ | refine noG_ret ?_ | refine noG_normal ?_ | refine noG_exit ?_ | refine W_true rfl ?_ | refine W_false rfl ?_))
      exact Body_end0 rfl rfl rfl (SubR.refl _) (.inl ⟨[], rfl⟩)
theorem cuts_fn (h : PH) (off : Nat) (s : ByteArray) (hb : off + s.size ≤ 100000000) : Does Try.prog 22 [.int .i64 (off : Int), .string s] [] h (Ret fun r R' h' => R' = [] ∧ ∃ lb : List Value, r = .func (.func 28) #[] lb.toArray ∧ ∀ h'', le h' h'' → Iter Try.prog 28 lb [] (cntP off s.size) (argP off s) h'') := by
  refine Does_of_W Try.func22 rfl (n := 6) rfl rfl (by simp only [argE, Nat.reduceAdd] <;> rfl) ?_
  (repeat (first | refine WL_nil ?_ | refine WR_succ ?_ | refine Then_normal ?_ | refine W_seq ?_ | refine W_skip ?_ | refine W_ret ?_ | refine W_exit ?_ | refine W_block ?_ | refine Then_ret ?_ | refine Then_panic ?_ | refine inBlk_panic ?_ | refine Then_exit ?_ | refine inBlk_ret ?_ | refine inBlk_normal ?_ | refine inBlk_here ?_ | refine inBlk_out rfl ?_ | refine W_scope ?_ | refine W_label ?_ | refine noG_ret ?_ | refine noG_normal ?_ | refine noG_exit ?_ | refine W_true rfl ?_ | refine W_false rfl ?_))
  refine W_region rfl ?_
  (first | (refine WL_box rfl rfl rfl rfl rfl rfl ?_; intro b_) | (refine WL_boxV rfl rfl (by simp only [vc] <;> rfl) rfl rfl rfl ?_; intro b_))
  generalize b_ = b1
  (first | (refine WL_box rfl rfl rfl rfl rfl rfl ?_; intro b_) | (refine WL_boxV rfl rfl (by simp only [vc] <;> rfl) rfl rfl rfl ?_; intro b_))
  generalize b_ = b2
  (first | refine WL_is (X_assign rfl rfl) rfl rfl rfl ?_)
  (repeat (first | refine WL_nil ?_ | refine WR_succ ?_ | refine Then_normal ?_ | refine W_seq ?_ | refine W_skip ?_ | refine W_ret ?_ | refine W_exit ?_ | refine W_block ?_ | refine Then_ret ?_ | refine Then_panic ?_ | refine inBlk_panic ?_ | refine Then_exit ?_ | refine inBlk_ret ?_ | refine inBlk_normal ?_ | refine inBlk_here ?_ | refine inBlk_out rfl ?_ | refine W_scope ?_ | refine W_label ?_ | refine noG_ret ?_ | refine noG_normal ?_ | refine noG_exit ?_ | refine W_true rfl ?_ | refine W_false rfl ?_))
  refine W_updE (UpdE.freeze 1 rfl) ?_
  rintro _ H1 L1 ⟨rfl, hb1⟩
  refine W_updE (UpdE.freeze 0 rfl) ?_
  rintro _ H2 L2 ⟨rfl, hb2⟩
  have at1 := At.of_blk (L2 _ _ hb1)
  have at2 := At.of_blk hb2
  simp only [List.eraseIdx_cons_succ, List.eraseIdx_cons_zero]
  (repeat (first | refine WL_nil ?_ | refine WR_succ ?_ | refine Then_normal ?_ | refine W_seq ?_ | refine W_skip ?_ | refine W_ret ?_ | refine W_exit ?_ | refine W_block ?_ | refine Then_ret ?_ | refine Then_panic ?_ | refine inBlk_panic ?_ | refine Then_exit ?_ | refine inBlk_ret ?_ | refine inBlk_normal ?_ | refine inBlk_here ?_ | refine inBlk_out rfl ?_ | refine W_scope ?_ | refine W_label ?_ | refine noG_ret ?_ | refine noG_normal ?_ | refine noG_exit ?_ | refine W_true rfl ?_ | refine W_false rfl ?_))
  refine W_region rfl ?_
  (first | refine WL_is (X_makeFunc rfl rfl rfl) rfl rfl rfl ?_)
  (first | refine WL_is (X_assign rfl rfl) rfl rfl rfl ?_)
  (repeat (first | refine WL_nil ?_ | refine WR_succ ?_ | refine Then_normal ?_ | refine W_seq ?_ | refine W_skip ?_ | refine W_ret ?_ | refine W_exit ?_ | refine W_block ?_ | refine Then_ret ?_ | refine Then_panic ?_ | refine inBlk_panic ?_ | refine Then_exit ?_ | refine inBlk_ret ?_ | refine inBlk_normal ?_ | refine inBlk_here ?_ | refine inBlk_out rfl ?_ | refine W_scope ?_ | refine W_label ?_ | refine noG_ret ?_ | refine noG_normal ?_ | refine noG_exit ?_ | refine W_true rfl ?_ | refine W_false rfl ?_))
  refine Body_end rfl rfl rfl (SubR.refl _) ⟨rfl, [.pointer (some ⟨b1, 0, none⟩), .pointer (some ⟨b2, 0, none⟩)], rfl, fun h'' hl => ?_⟩
  exact cuts_iter h'' _ _ off s (at1.mono hl) (at2.mono hl) hb
end Go.Proofs.Ytoocbfpomamdeaa
