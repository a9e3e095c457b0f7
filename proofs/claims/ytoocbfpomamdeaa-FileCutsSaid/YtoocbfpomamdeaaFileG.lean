/- Files: words with bytes in them. -/
import Derived.Test.YtoocbfpomamdeaaFileF
namespace Go.Proofs.Ytoocbfpomamdeaa
set_option maxRecDepth 4000
open Go Go.Par PH
def chrN (s : ByteArray) (j : Nat) : Nat := (s.data.toList[j]?.getD 0).toNat
theorem chrN_lt (s : ByteArray) (j : Nat) : chrN s j < 256 := UInt8.toNat_lt _
def mrgB (w : Nat) (s : ByteArray) (f k : Nat) : Nat → Nat := fun j => if f ≤ j ∧ j < f + k then chrN s (j - f) else byteN w j
theorem mrgB_lt (w : Nat) (s : ByteArray) (f k : Nat) : ∀ j, mrgB w s f k j < 256 := fun j => by unfold mrgB; split; exact chrN_lt _ _; exact byteN_lt _ _
def mrgE (f : Int) (s : ByteArray) : Int := if f < 0 ∨ 8 < f ∨ 8 - f < s.size then 2 else 0
def mrgW (w : Nat) (f : Int) (s : ByteArray) : Int := if mrgE f s = 0 then ((ofB (mrgB w s f.toNat s.size) 8 : Nat) : Int) else 0
theorem mrg_zero (w : Nat) (s : ByteArray) (f : Nat) (hw : w < 18446744073709551616) : ofB (mrgB w s f 0) 8 = w := by
  have h2 := ofB_bytes w 8
  rw [two64, Nat.mod_eq_of_lt hw] at h2
  conv => rhs; rw [← h2]
  refine ofB_congr fun j _ => ?_
  unfold mrgB; rw [if_neg (by omega)]; rfl
theorem mrg_succ (w : Nat) (s : ByteArray) (f k : Nat) : ofB (updB (byteN (ofB (mrgB w s f k) 8)) (f + k) (chrN s k)) 8 = ofB (mrgB w s f (k + 1)) 8 := by
  refine ofB_congr fun j hj => ?_
  have h1 : byteN (ofB (mrgB w s f k) 8) j = mrgB w s f k j := ofB_div (mrgB_lt w s f k) hj
  unfold updB
  rw [h1]
  unfold mrgB
  by_cases e : j = f + k
  · subst e; rw [if_pos rfl, if_pos (by omega)]; congr 1; omega
  · rw [if_neg e]
    by_cases e2 : f ≤ j ∧ j < f + k
    · rw [if_pos e2, if_pos (by omega)]
    · rw [if_neg e2, if_neg (by omega)]
theorem chr_at {s : ByteArray} {k : Nat} (h : k < s.size) : ∃ c, s.data.toList[k]? = some c ∧ c.toNat = chrN s k := by
  have h' : k < s.data.toList.length := by simpa using h
  refine ⟨s.data.toList[k], List.getElem?_eq_getElem h', ?_⟩
  unfold chrN
  rw [List.getElem?_eq_getElem h']; rfl
attribute [local irreducible] W WL Does Exec Body Then inBlk RG WR row obj pblk
set_option maxHeartbeats 1000000 in
theorem merge_ref (h : PH) (w : Nat) (f : Int) (s : ByteArray) (hw : w < 18446744073709551616) (hs : s.size ≤ 1000000) : Does Try.prog 15 [.int .u64 (w : Int), .int .i64 f, .string s] [] h (Ret fun r _ _ => r = .tuple #[.int .u64 (mrgW w f s), .int .i64 (mrgE f s)]) := by
  refine Does_of_W Try.func15 rfl (n := 45) rfl rfl (by simp only [argE, Nat.reduceAdd] <;> rfl) ?_
  by_cases h1 : f < 0
  · (repeat (first | refine WL_nil ?_ | refine WR_succ ?_ | refine Then_normal ?_ | refine W_seq ?_ | refine W_skip ?_ | refine W_ret ?_ | refine W_exit ?_ | refine W_block ?_ | refine Then_ret ?_ | refine Then_panic ?_ | refine inBlk_panic ?_ | refine Then_exit ?_ | refine inBlk_ret ?_ | refine inBlk_normal ?_ | refine inBlk_here ?_ | refine inBlk_out rfl ?_ | refine W_scope ?_ | refine W_label ?_ | refine noG_ret ?_ | refine noG_normal ?_ | refine noG_exit ?_ | refine W_true rfl ?_ | refine W_false rfl ?_))
    (repeat (first | refine WL_nil ?_ | refine WR_succ ?_ | refine Then_normal ?_ | refine W_seq ?_ | refine W_skip ?_ | refine W_ret ?_ | refine W_exit ?_ | refine W_block ?_ | refine Then_ret ?_ | refine Then_panic ?_ | refine inBlk_panic ?_ | refine Then_exit ?_ | refine inBlk_ret ?_ | refine inBlk_normal ?_ | refine inBlk_here ?_ | refine inBlk_out rfl ?_ | refine W_scope ?_ | refine W_label ?_ | refine noG_ret ?_ | refine noG_normal ?_ | refine noG_exit ?_ | refine W_true rfl ?_ | refine W_false rfl ?_))
    refine W_region rfl ?_
    (first | refine WL_is (X_assign rfl rfl) rfl rfl rfl ?_)
    (first | refine WL_is (X_assign rfl rfl) rfl rfl rfl ?_)
    (repeat (first | refine WL_nil ?_ | refine WR_succ ?_ | refine Then_normal ?_ | refine W_seq ?_ | refine W_skip ?_ | refine W_ret ?_ | refine W_exit ?_ | refine W_block ?_ | refine Then_ret ?_ | refine Then_panic ?_ | refine inBlk_panic ?_ | refine Then_exit ?_ | refine inBlk_ret ?_ | refine inBlk_normal ?_ | refine inBlk_here ?_ | refine inBlk_out rfl ?_ | refine W_scope ?_ | refine W_label ?_ | refine noG_ret ?_ | refine noG_normal ?_ | refine noG_exit ?_ | refine W_true rfl ?_ | refine W_false rfl ?_))
    (repeat (first | refine WL_nil ?_ | refine WR_succ ?_ | refine Then_normal ?_ | refine W_seq ?_ | refine W_skip ?_ | refine W_ret ?_ | refine W_exit ?_ | refine W_block ?_ | refine Then_ret ?_ | refine Then_panic ?_ | refine inBlk_panic ?_ | refine Then_exit ?_ | refine inBlk_ret ?_ | refine inBlk_normal ?_ | refine inBlk_here ?_ | refine inBlk_out rfl ?_ | refine W_scope ?_ | refine W_label ?_ | refine noG_ret ?_ | refine noG_normal ?_ | refine noG_exit ?_ | refine W_true rfl ?_ | refine W_false rfl ?_))
    refine W_region rfl ?_
    (first | refine WL_is (X_move rfl rfl) rfl rfl rfl ?_)
    (first | refine WL_is (X_lss_t rfl rfl rfl (by omega)) rfl rfl rfl ?_ | refine WL_is (X_lss_f rfl rfl rfl (by omega)) rfl rfl rfl ?_ | refine WL_is (X_lss rfl rfl rfl) rfl rfl rfl ?_)
    (first | refine WL_is (X_move rfl rfl) rfl rfl rfl ?_)
    (first | refine WL_off rfl rfl rfl ?_ | refine WL_is (X_move rfl rfl) rfl rfl rfl ?_)
    (first | refine WL_off rfl rfl rfl ?_ | refine WL_is (X_gtr_t rfl rfl rfl (by omega)) rfl rfl rfl ?_ | refine WL_is (X_gtr_f rfl rfl rfl (by omega)) rfl rfl rfl ?_ | refine WL_is (X_gtr rfl rfl rfl) rfl rfl rfl ?_)
    (first | refine WL_is (X_pick_t rfl rfl rfl) rfl rfl rfl ?_ | refine WL_is (X_pick_f rfl rfl rfl) rfl rfl rfl ?_)
    (first | refine WL_is (X_move rfl rfl) rfl rfl rfl ?_)
    (first | refine WL_off rfl rfl rfl ?_ | refine WL_is (X_move rfl rfl) rfl rfl rfl ?_)
    (first | refine WL_off rfl rfl rfl ?_ | refine WL_is (X_len_sl rfl rfl rfl (by assumption)) rfl rfl rfl ?_ | refine WL_is (X_len rfl rfl rfl) rfl rfl rfl ?_ | refine WL_is (X_len_str rfl rfl rfl) rfl rfl rfl ?_)
    (first | refine WL_off rfl rfl rfl ?_ | refine WL_is (X_move rfl rfl) rfl rfl rfl ?_)
    (first | refine WL_off rfl rfl rfl ?_ | refine WL_is (X_subW rfl rfl rfl (by refine wrapL (by simp only [Int.reduceSub] <;> rfl) ?_; decide)) rfl rfl rfl ?_ | refine WL_is (X_subW rfl rfl rfl (by first | exact wrap_i64_in (by omega) (by omega) | exact wrap_u16_in (by omega) (by omega) | exact wrap_u8_in (by omega) (by omega) | exact wrap_u64_in (by omega) (by omega))) rfl rfl rfl ?_ | refine WL_is (X_sub rfl rfl rfl) rfl rfl rfl ?_)
    (first | refine WL_off rfl rfl rfl ?_ | refine WL_is (X_gtr_t rfl rfl rfl (by omega)) rfl rfl rfl ?_ | refine WL_is (X_gtr_f rfl rfl rfl (by omega)) rfl rfl rfl ?_ | refine WL_is (X_gtr rfl rfl rfl) rfl rfl rfl ?_)
    (first | refine WL_is (X_pick_t rfl rfl rfl) rfl rfl rfl ?_ | refine WL_is (X_pick_f rfl rfl rfl) rfl rfl rfl ?_)
    (repeat (first | refine WL_nil ?_ | refine WR_succ ?_ | refine Then_normal ?_ | refine W_seq ?_ | refine W_skip ?_ | refine W_ret ?_ | refine W_exit ?_ | refine W_block ?_ | refine Then_ret ?_ | refine Then_panic ?_ | refine inBlk_panic ?_ | refine Then_exit ?_ | refine inBlk_ret ?_ | refine inBlk_normal ?_ | refine inBlk_here ?_ | refine inBlk_out rfl ?_ | refine W_scope ?_ | refine W_label ?_ | refine noG_ret ?_ | refine noG_normal ?_ | refine noG_exit ?_ | refine W_true rfl ?_ | refine W_false rfl ?_))
    (repeat (first | refine WL_nil ?_ | refine WR_succ ?_ | refine Then_normal ?_ | refine W_seq ?_ | refine W_skip ?_ | refine W_ret ?_ | refine W_exit ?_ | refine W_block ?_ | refine Then_ret ?_ | refine Then_panic ?_ | refine inBlk_panic ?_ | refine Then_exit ?_ | refine inBlk_ret ?_ | refine inBlk_normal ?_ | refine inBlk_here ?_ | refine inBlk_out rfl ?_ | refine W_scope ?_ | refine W_label ?_ | refine noG_ret ?_ | refine noG_normal ?_ | refine noG_exit ?_ | refine W_true rfl ?_ | refine W_false rfl ?_))
    refine W_region rfl ?_
    (first | refine WL_is (X_assign rfl rfl) rfl rfl rfl ?_)
    (first | refine WL_is (X_assign rfl rfl) rfl rfl rfl ?_)
    (repeat (first | refine WL_nil ?_ | refine WR_succ ?_ | refine Then_normal ?_ | refine W_seq ?_ | refine W_skip ?_ | refine W_ret ?_ | refine W_exit ?_ | refine W_block ?_ | refine Then_ret ?_ | refine Then_panic ?_ | refine inBlk_panic ?_ | refine Then_exit ?_ | refine inBlk_ret ?_ | refine inBlk_normal ?_ | refine inBlk_here ?_ | refine inBlk_out rfl ?_ | refine W_scope ?_ | refine W_label ?_ | refine noG_ret ?_ | refine noG_normal ?_ | refine noG_exit ?_ | refine W_true rfl ?_ | refine W_false rfl ?_))
    refine Body_end rfl rfl rfl (SubR.none _) ?_
    simp [mrgW, mrgE, h1]
  by_cases h2 : f > 8
  · (repeat (first | refine WL_nil ?_ | refine WR_succ ?_ | refine Then_normal ?_ | refine W_seq ?_ | refine W_skip ?_ | refine W_ret ?_ | refine W_exit ?_ | refine W_block ?_ | refine Then_ret ?_ | refine Then_panic ?_ | refine inBlk_panic ?_ | refine Then_exit ?_ | refine inBlk_ret ?_ | refine inBlk_normal ?_ | refine inBlk_here ?_ | refine inBlk_out rfl ?_ | refine W_scope ?_ | refine W_label ?_ | refine noG_ret ?_ | refine noG_normal ?_ | refine noG_exit ?_ | refine W_true rfl ?_ | refine W_false rfl ?_))
    (repeat (first | refine WL_nil ?_ | refine WR_succ ?_ | refine Then_normal ?_ | refine W_seq ?_ | refine W_skip ?_ | refine W_ret ?_ | refine W_exit ?_ | refine W_block ?_ | refine Then_ret ?_ | refine Then_panic ?_ | refine inBlk_panic ?_ | refine Then_exit ?_ | refine inBlk_ret ?_ | refine inBlk_normal ?_ | refine inBlk_here ?_ | refine inBlk_out rfl ?_ | refine W_scope ?_ | refine W_label ?_ | refine noG_ret ?_ | refine noG_normal ?_ | refine noG_exit ?_ | refine W_true rfl ?_ | refine W_false rfl ?_))
    refine W_region rfl ?_
    (first | refine WL_is (X_assign rfl rfl) rfl rfl rfl ?_)
    (first | refine WL_is (X_assign rfl rfl) rfl rfl rfl ?_)
    (repeat (first | refine WL_nil ?_ | refine WR_succ ?_ | refine Then_normal ?_ | refine W_seq ?_ | refine W_skip ?_ | refine W_ret ?_ | refine W_exit ?_ | refine W_block ?_ | refine Then_ret ?_ | refine Then_panic ?_ | refine inBlk_panic ?_ | refine Then_exit ?_ | refine inBlk_ret ?_ | refine inBlk_normal ?_ | refine inBlk_here ?_ | refine inBlk_out rfl ?_ | refine W_scope ?_ | refine W_label ?_ | refine noG_ret ?_ | refine noG_normal ?_ | refine noG_exit ?_ | refine W_true rfl ?_ | refine W_false rfl ?_))
    (repeat (first | refine WL_nil ?_ | refine WR_succ ?_ | refine Then_normal ?_ | refine W_seq ?_ | refine W_skip ?_ | refine W_ret ?_ | refine W_exit ?_ | refine W_block ?_ | refine Then_ret ?_ | refine Then_panic ?_ | refine inBlk_panic ?_ | refine Then_exit ?_ | refine inBlk_ret ?_ | refine inBlk_normal ?_ | refine inBlk_here ?_ | refine inBlk_out rfl ?_ | refine W_scope ?_ | refine W_label ?_ | refine noG_ret ?_ | refine noG_normal ?_ | refine noG_exit ?_ | refine W_true rfl ?_ | refine W_false rfl ?_))
    refine W_region rfl ?_
    (first | refine WL_is (X_move rfl rfl) rfl rfl rfl ?_)
    (first | refine WL_is (X_lss_t rfl rfl rfl (by omega)) rfl rfl rfl ?_ | refine WL_is (X_lss_f rfl rfl rfl (by omega)) rfl rfl rfl ?_ | refine WL_is (X_lss rfl rfl rfl) rfl rfl rfl ?_)
    (first | refine WL_is (X_move rfl rfl) rfl rfl rfl ?_)
    (first | refine WL_off rfl rfl rfl ?_ | refine WL_is (X_move rfl rfl) rfl rfl rfl ?_)
    (first | refine WL_off rfl rfl rfl ?_ | refine WL_is (X_gtr_t rfl rfl rfl (by omega)) rfl rfl rfl ?_ | refine WL_is (X_gtr_f rfl rfl rfl (by omega)) rfl rfl rfl ?_ | refine WL_is (X_gtr rfl rfl rfl) rfl rfl rfl ?_)
    (first | refine WL_is (X_pick_t rfl rfl rfl) rfl rfl rfl ?_ | refine WL_is (X_pick_f rfl rfl rfl) rfl rfl rfl ?_)
    (first | refine WL_is (X_move rfl rfl) rfl rfl rfl ?_)
    (first | refine WL_off rfl rfl rfl ?_ | refine WL_is (X_move rfl rfl) rfl rfl rfl ?_)
    (first | refine WL_off rfl rfl rfl ?_ | refine WL_is (X_len_sl rfl rfl rfl (by assumption)) rfl rfl rfl ?_ | refine WL_is (X_len rfl rfl rfl) rfl rfl rfl ?_ | refine WL_is (X_len_str rfl rfl rfl) rfl rfl rfl ?_)
    (first | refine WL_off rfl rfl rfl ?_ | refine WL_is (X_move rfl rfl) rfl rfl rfl ?_)
    (first | refine WL_off rfl rfl rfl ?_ | refine WL_is (X_subW rfl rfl rfl (by refine wrapL (by simp only [Int.reduceSub] <;> rfl) ?_; decide)) rfl rfl rfl ?_ | refine WL_is (X_subW rfl rfl rfl (by first | exact wrap_i64_in (by omega) (by omega) | exact wrap_u16_in (by omega) (by omega) | exact wrap_u8_in (by omega) (by omega) | exact wrap_u64_in (by omega) (by omega))) rfl rfl rfl ?_ | refine WL_is (X_sub rfl rfl rfl) rfl rfl rfl ?_)
    (first | refine WL_off rfl rfl rfl ?_ | refine WL_is (X_gtr_t rfl rfl rfl (by omega)) rfl rfl rfl ?_ | refine WL_is (X_gtr_f rfl rfl rfl (by omega)) rfl rfl rfl ?_ | refine WL_is (X_gtr rfl rfl rfl) rfl rfl rfl ?_)
    (first | refine WL_is (X_pick_t rfl rfl rfl) rfl rfl rfl ?_ | refine WL_is (X_pick_f rfl rfl rfl) rfl rfl rfl ?_)
    (repeat (first | refine WL_nil ?_ | refine WR_succ ?_ | refine Then_normal ?_ | refine W_seq ?_ | refine W_skip ?_ | refine W_ret ?_ | refine W_exit ?_ | refine W_block ?_ | refine Then_ret ?_ | refine Then_panic ?_ | refine inBlk_panic ?_ | refine Then_exit ?_ | refine inBlk_ret ?_ | refine inBlk_normal ?_ | refine inBlk_here ?_ | refine inBlk_out rfl ?_ | refine W_scope ?_ | refine W_label ?_ | refine noG_ret ?_ | refine noG_normal ?_ | refine noG_exit ?_ | refine W_true rfl ?_ | refine W_false rfl ?_))
    (repeat (first | refine WL_nil ?_ | refine WR_succ ?_ | refine Then_normal ?_ | refine W_seq ?_ | refine W_skip ?_ | refine W_ret ?_ | refine W_exit ?_ | refine W_block ?_ | refine Then_ret ?_ | refine Then_panic ?_ | refine inBlk_panic ?_ | refine Then_exit ?_ | refine inBlk_ret ?_ | refine inBlk_normal ?_ | refine inBlk_here ?_ | refine inBlk_out rfl ?_ | refine W_scope ?_ | refine W_label ?_ | refine noG_ret ?_ | refine noG_normal ?_ | refine noG_exit ?_ | refine W_true rfl ?_ | refine W_false rfl ?_))
    refine W_region rfl ?_
    (first | refine WL_is (X_assign rfl rfl) rfl rfl rfl ?_)
    (first | refine WL_is (X_assign rfl rfl) rfl rfl rfl ?_)
    (repeat (first | refine WL_nil ?_ | refine WR_succ ?_ | refine Then_normal ?_ | refine W_seq ?_ | refine W_skip ?_ | refine W_ret ?_ | refine W_exit ?_ | refine W_block ?_ | refine Then_ret ?_ | refine Then_panic ?_ | refine inBlk_panic ?_ | refine Then_exit ?_ | refine inBlk_ret ?_ | refine inBlk_normal ?_ | refine inBlk_here ?_ | refine inBlk_out rfl ?_ | refine W_scope ?_ | refine W_label ?_ | refine noG_ret ?_ | refine noG_normal ?_ | refine noG_exit ?_ | refine W_true rfl ?_ | refine W_false rfl ?_))
    refine Body_end rfl rfl rfl (SubR.none _) ?_
    simp [mrgW, mrgE, h2]
  by_cases h3 : (s.size : Int) > 8 - f
  · (repeat (first | refine WL_nil ?_ | refine WR_succ ?_ | refine Then_normal ?_ | refine W_seq ?_ | refine W_skip ?_ | refine W_ret ?_ | refine W_exit ?_ | refine W_block ?_ | refine Then_ret ?_ | refine Then_panic ?_ | refine inBlk_panic ?_ | refine Then_exit ?_ | refine inBlk_ret ?_ | refine inBlk_normal ?_ | refine inBlk_here ?_ | refine inBlk_out rfl ?_ | refine W_scope ?_ | refine W_label ?_ | refine noG_ret ?_ | refine noG_normal ?_ | refine noG_exit ?_ | refine W_true rfl ?_ | refine W_false rfl ?_))
    (repeat (first | refine WL_nil ?_ | refine WR_succ ?_ | refine Then_normal ?_ | refine W_seq ?_ | refine W_skip ?_ | refine W_ret ?_ | refine W_exit ?_ | refine W_block ?_ | refine Then_ret ?_ | refine Then_panic ?_ | refine inBlk_panic ?_ | refine Then_exit ?_ | refine inBlk_ret ?_ | refine inBlk_normal ?_ | refine inBlk_here ?_ | refine inBlk_out rfl ?_ | refine W_scope ?_ | refine W_label ?_ | refine noG_ret ?_ | refine noG_normal ?_ | refine noG_exit ?_ | refine W_true rfl ?_ | refine W_false rfl ?_))
    refine W_region rfl ?_
    (first | refine WL_is (X_assign rfl rfl) rfl rfl rfl ?_)
    (first | refine WL_is (X_assign rfl rfl) rfl rfl rfl ?_)
    (repeat (first | refine WL_nil ?_ | refine WR_succ ?_ | refine Then_normal ?_ | refine W_seq ?_ | refine W_skip ?_ | refine W_ret ?_ | refine W_exit ?_ | refine W_block ?_ | refine Then_ret ?_ | refine Then_panic ?_ | refine inBlk_panic ?_ | refine Then_exit ?_ | refine inBlk_ret ?_ | refine inBlk_normal ?_ | refine inBlk_here ?_ | refine inBlk_out rfl ?_ | refine W_scope ?_ | refine W_label ?_ | refine noG_ret ?_ | refine noG_normal ?_ | refine noG_exit ?_ | refine W_true rfl ?_ | refine W_false rfl ?_))
    (repeat (first | refine WL_nil ?_ | refine WR_succ ?_ | refine Then_normal ?_ | refine W_seq ?_ | refine W_skip ?_ | refine W_ret ?_ | refine W_exit ?_ | refine W_block ?_ | refine Then_ret ?_ | refine Then_panic ?_ | refine inBlk_panic ?_ | refine Then_exit ?_ | refine inBlk_ret ?_ | refine inBlk_normal ?_ | refine inBlk_here ?_ | refine inBlk_out rfl ?_ | refine W_scope ?_ | refine W_label ?_ | refine noG_ret ?_ | refine noG_normal ?_ | refine noG_exit ?_ | refine W_true rfl ?_ | refine W_false rfl ?_))
    refine W_region rfl ?_
    (first | refine WL_is (X_move rfl rfl) rfl rfl rfl ?_)
    (first | refine WL_is (X_lss_t rfl rfl rfl (by omega)) rfl rfl rfl ?_ | refine WL_is (X_lss_f rfl rfl rfl (by omega)) rfl rfl rfl ?_ | refine WL_is (X_lss rfl rfl rfl) rfl rfl rfl ?_)
    (first | refine WL_is (X_move rfl rfl) rfl rfl rfl ?_)
    (first | refine WL_off rfl rfl rfl ?_ | refine WL_is (X_move rfl rfl) rfl rfl rfl ?_)
    (first | refine WL_off rfl rfl rfl ?_ | refine WL_is (X_gtr_t rfl rfl rfl (by omega)) rfl rfl rfl ?_ | refine WL_is (X_gtr_f rfl rfl rfl (by omega)) rfl rfl rfl ?_ | refine WL_is (X_gtr rfl rfl rfl) rfl rfl rfl ?_)
    (first | refine WL_is (X_pick_t rfl rfl rfl) rfl rfl rfl ?_ | refine WL_is (X_pick_f rfl rfl rfl) rfl rfl rfl ?_)
    (first | refine WL_is (X_move rfl rfl) rfl rfl rfl ?_)
    (first | refine WL_off rfl rfl rfl ?_ | refine WL_is (X_move rfl rfl) rfl rfl rfl ?_)
    (first | refine WL_off rfl rfl rfl ?_ | refine WL_is (X_len_sl rfl rfl rfl (by assumption)) rfl rfl rfl ?_ | refine WL_is (X_len rfl rfl rfl) rfl rfl rfl ?_ | refine WL_is (X_len_str rfl rfl rfl) rfl rfl rfl ?_)
    (first | refine WL_off rfl rfl rfl ?_ | refine WL_is (X_move rfl rfl) rfl rfl rfl ?_)
    (first | refine WL_off rfl rfl rfl ?_ | refine WL_is (X_subW rfl rfl rfl (by refine wrapL (by simp only [Int.reduceSub] <;> rfl) ?_; decide)) rfl rfl rfl ?_ | refine WL_is (X_subW rfl rfl rfl (by first | exact wrap_i64_in (by omega) (by omega) | exact wrap_u16_in (by omega) (by omega) | exact wrap_u8_in (by omega) (by omega) | exact wrap_u64_in (by omega) (by omega))) rfl rfl rfl ?_ | refine WL_is (X_sub rfl rfl rfl) rfl rfl rfl ?_)
    (first | refine WL_off rfl rfl rfl ?_ | refine WL_is (X_gtr_t rfl rfl rfl (by omega)) rfl rfl rfl ?_ | refine WL_is (X_gtr_f rfl rfl rfl (by omega)) rfl rfl rfl ?_ | refine WL_is (X_gtr rfl rfl rfl) rfl rfl rfl ?_)
    (first | refine WL_is (X_pick_t rfl rfl rfl) rfl rfl rfl ?_ | refine WL_is (X_pick_f rfl rfl rfl) rfl rfl rfl ?_)
    (repeat (first | refine WL_nil ?_ | refine WR_succ ?_ | refine Then_normal ?_ | refine W_seq ?_ | refine W_skip ?_ | refine W_ret ?_ | refine W_exit ?_ | refine W_block ?_ | refine Then_ret ?_ | refine Then_panic ?_ | refine inBlk_panic ?_ | refine Then_exit ?_ | refine inBlk_ret ?_ | refine inBlk_normal ?_ | refine inBlk_here ?_ | refine inBlk_out rfl ?_ | refine W_scope ?_ | refine W_label ?_ | refine noG_ret ?_ | refine noG_normal ?_ | refine noG_exit ?_ | refine W_true rfl ?_ | refine W_false rfl ?_))
    (repeat (first | refine WL_nil ?_ | refine WR_succ ?_ | refine Then_normal ?_ | refine W_seq ?_ | refine W_skip ?_ | refine W_ret ?_ | refine W_exit ?_ | refine W_block ?_ | refine Then_ret ?_ | refine Then_panic ?_ | refine inBlk_panic ?_ | refine Then_exit ?_ | refine inBlk_ret ?_ | refine inBlk_normal ?_ | refine inBlk_here ?_ | refine inBlk_out rfl ?_ | refine W_scope ?_ | refine W_label ?_ | refine noG_ret ?_ | refine noG_normal ?_ | refine noG_exit ?_ | refine W_true rfl ?_ | refine W_false rfl ?_))
    refine W_region rfl ?_
    (first | refine WL_is (X_assign rfl rfl) rfl rfl rfl ?_)
    (first | refine WL_is (X_assign rfl rfl) rfl rfl rfl ?_)
    (repeat (first | refine WL_nil ?_ | refine WR_succ ?_ | refine Then_normal ?_ | refine W_seq ?_ | refine W_skip ?_ | refine W_ret ?_ | refine W_exit ?_ | refine W_block ?_ | refine Then_ret ?_ | refine Then_panic ?_ | refine inBlk_panic ?_ | refine Then_exit ?_ | refine inBlk_ret ?_ | refine inBlk_normal ?_ | refine inBlk_here ?_ | refine inBlk_out rfl ?_ | refine W_scope ?_ | refine W_label ?_ | refine noG_ret ?_ | refine noG_normal ?_ | refine noG_exit ?_ | refine W_true rfl ?_ | refine W_false rfl ?_))
    refine Body_end rfl rfl rfl (SubR.none _) ?_
    simp [mrgW, mrgE, h3]
  have he : mrgE f s = 0 := by unfold mrgE; rw [if_neg (by omega)]
  unfold mrgW
  rw [he, if_pos rfl]
  obtain ⟨f, rfl⟩ := Int.eq_ofNat_of_zero_le (by omega : 0 ≤ f)
  (repeat (first | refine WL_nil ?_ | refine WR_succ ?_ | refine Then_normal ?_ | refine W_seq ?_ | refine W_skip ?_ | refine W_ret ?_ | refine W_exit ?_ | refine W_block ?_ | refine Then_ret ?_ | refine Then_panic ?_ | refine inBlk_panic ?_ | refine Then_exit ?_ | refine inBlk_ret ?_ | refine inBlk_normal ?_ | refine inBlk_here ?_ | refine inBlk_out rfl ?_ | refine W_scope ?_ | refine W_label ?_ | refine noG_ret ?_ | refine noG_normal ?_ | refine noG_exit ?_ | refine W_true rfl ?_ | refine W_false rfl ?_))
  (repeat (first | refine WL_nil ?_ | refine WR_succ ?_ | refine Then_normal ?_ | refine W_seq ?_ | refine W_skip ?_ | refine W_ret ?_ | refine W_exit ?_ | refine W_block ?_ | refine Then_ret ?_ | refine Then_panic ?_ | refine inBlk_panic ?_ | refine Then_exit ?_ | refine inBlk_ret ?_ | refine inBlk_normal ?_ | refine inBlk_here ?_ | refine inBlk_out rfl ?_ | refine W_scope ?_ | refine W_label ?_ | refine noG_ret ?_ | refine noG_normal ?_ | refine noG_exit ?_ | refine W_true rfl ?_ | refine W_false rfl ?_))
  refine W_region rfl ?_
  (first | refine WL_is (X_assign rfl rfl) rfl rfl rfl ?_)
  (first | refine WL_is (X_assign rfl rfl) rfl rfl rfl ?_)
  (repeat (first | refine WL_nil ?_ | refine WR_succ ?_ | refine Then_normal ?_ | refine W_seq ?_ | refine W_skip ?_ | refine W_ret ?_ | refine W_exit ?_ | refine W_block ?_ | refine Then_ret ?_ | refine Then_panic ?_ | refine inBlk_panic ?_ | refine Then_exit ?_ | refine inBlk_ret ?_ | refine inBlk_normal ?_ | refine inBlk_here ?_ | refine inBlk_out rfl ?_ | refine W_scope ?_ | refine W_label ?_ | refine noG_ret ?_ | refine noG_normal ?_ | refine noG_exit ?_ | refine W_true rfl ?_ | refine W_false rfl ?_))
  (repeat (first | refine WL_nil ?_ | refine WR_succ ?_ | refine Then_normal ?_ | refine W_seq ?_ | refine W_skip ?_ | refine W_ret ?_ | refine W_exit ?_ | refine W_block ?_ | refine Then_ret ?_ | refine Then_panic ?_ | refine inBlk_panic ?_ | refine Then_exit ?_ | refine inBlk_ret ?_ | refine inBlk_normal ?_ | refine inBlk_here ?_ | refine inBlk_out rfl ?_ | refine W_scope ?_ | refine W_label ?_ | refine noG_ret ?_ | refine noG_normal ?_ | refine noG_exit ?_ | refine W_true rfl ?_ | refine W_false rfl ?_))
  refine W_region rfl ?_
  (first | refine WL_is (X_move rfl rfl) rfl rfl rfl ?_)
  (first | refine WL_is (X_lss_t rfl rfl rfl (by omega)) rfl rfl rfl ?_ | refine WL_is (X_lss_f rfl rfl rfl (by omega)) rfl rfl rfl ?_ | refine WL_is (X_lss rfl rfl rfl) rfl rfl rfl ?_)
  (first | refine WL_is (X_move rfl rfl) rfl rfl rfl ?_)
  (first | refine WL_off rfl rfl rfl ?_ | refine WL_is (X_move rfl rfl) rfl rfl rfl ?_)
  (first | refine WL_off rfl rfl rfl ?_ | refine WL_is (X_gtr_t rfl rfl rfl (by omega)) rfl rfl rfl ?_ | refine WL_is (X_gtr_f rfl rfl rfl (by omega)) rfl rfl rfl ?_ | refine WL_is (X_gtr rfl rfl rfl) rfl rfl rfl ?_)
  (first | refine WL_is (X_pick_t rfl rfl rfl) rfl rfl rfl ?_ | refine WL_is (X_pick_f rfl rfl rfl) rfl rfl rfl ?_)
  (first | refine WL_is (X_move rfl rfl) rfl rfl rfl ?_)
  (first | refine WL_off rfl rfl rfl ?_ | refine WL_is (X_move rfl rfl) rfl rfl rfl ?_)
  (first | refine WL_off rfl rfl rfl ?_ | refine WL_is (X_len_sl rfl rfl rfl (by assumption)) rfl rfl rfl ?_ | refine WL_is (X_len rfl rfl rfl) rfl rfl rfl ?_ | refine WL_is (X_len_str rfl rfl rfl) rfl rfl rfl ?_)
  (first | refine WL_off rfl rfl rfl ?_ | refine WL_is (X_move rfl rfl) rfl rfl rfl ?_)
  (first | refine WL_off rfl rfl rfl ?_ | refine WL_is (X_subW rfl rfl rfl (by refine wrapL (by simp only [Int.reduceSub] <;> rfl) ?_; decide)) rfl rfl rfl ?_ | refine WL_is (X_subW rfl rfl rfl (by first | exact wrap_i64_in (by omega) (by omega) | exact wrap_u16_in (by omega) (by omega) | exact wrap_u8_in (by omega) (by omega) | exact wrap_u64_in (by omega) (by omega))) rfl rfl rfl ?_ | refine WL_is (X_sub rfl rfl rfl) rfl rfl rfl ?_)
  (first | refine WL_off rfl rfl rfl ?_ | refine WL_is (X_gtr_t rfl rfl rfl (by omega)) rfl rfl rfl ?_ | refine WL_is (X_gtr_f rfl rfl rfl (by omega)) rfl rfl rfl ?_ | refine WL_is (X_gtr rfl rfl rfl) rfl rfl rfl ?_)
  (first | refine WL_is (X_pick_t rfl rfl rfl) rfl rfl rfl ?_ | refine WL_is (X_pick_f rfl rfl rfl) rfl rfl rfl ?_)
  (repeat (first | refine WL_nil ?_ | refine WR_succ ?_ | refine Then_normal ?_ | refine W_seq ?_ | refine W_skip ?_ | refine W_ret ?_ | refine W_exit ?_ | refine W_block ?_ | refine Then_ret ?_ | refine Then_panic ?_ | refine inBlk_panic ?_ | refine Then_exit ?_ | refine inBlk_ret ?_ | refine inBlk_normal ?_ | refine inBlk_here ?_ | refine inBlk_out rfl ?_ | refine W_scope ?_ | refine W_label ?_ | refine noG_ret ?_ | refine noG_normal ?_ | refine noG_exit ?_ | refine W_true rfl ?_ | refine W_false rfl ?_))
  (repeat (first | refine WL_nil ?_ | refine WR_succ ?_ | refine Then_normal ?_ | refine W_seq ?_ | refine W_skip ?_ | refine W_ret ?_ | refine W_exit ?_ | refine W_block ?_ | refine Then_ret ?_ | refine Then_panic ?_ | refine inBlk_panic ?_ | refine Then_exit ?_ | refine inBlk_ret ?_ | refine inBlk_normal ?_ | refine inBlk_here ?_ | refine inBlk_out rfl ?_ | refine W_scope ?_ | refine W_label ?_ | refine noG_ret ?_ | refine noG_normal ?_ | refine noG_exit ?_ | refine W_true rfl ?_ | refine W_false rfl ?_))
  refine W_region rfl ?_
  (first | refine WL_is (X_assign rfl rfl) rfl rfl rfl ?_)
  (repeat (first | refine WL_nil ?_ | refine WR_succ ?_ | refine Then_normal ?_ | refine W_seq ?_ | refine W_skip ?_ | refine W_ret ?_ | refine W_exit ?_ | refine W_block ?_ | refine Then_ret ?_ | refine Then_panic ?_ | refine inBlk_panic ?_ | refine Then_exit ?_ | refine inBlk_ret ?_ | refine inBlk_normal ?_ | refine inBlk_here ?_ | refine inBlk_out rfl ?_ | refine W_scope ?_ | refine W_label ?_ | refine noG_ret ?_ | refine noG_normal ?_ | refine noG_exit ?_ | refine W_true rfl ?_ | refine W_false rfl ?_))
  refine W_loop (X := Nat) (L := fun k => ⟨[(8, .int .i64 (k : Int)), (0, .int .u64 ((ofB (mrgB w s f k) 8 : Nat) : Int)), (1, .int .i64 (f : Int)), (2, .string s)], [], [], h⟩) (p := fun k => k ≤ s.size) (μ := fun k => s.size - k) 0 ⟨by rw [mrg_zero w s f hw]; exact (by repeat (first | exact SubE_nil | refine SubE_cons rfl ?_)), rfl, SubR.refl _, rfl⟩ (Nat.zero_le _) ?_
  intro k hk
  by_cases hlt : (k : Int) < s.size
  · obtain ⟨c, hc0, hcn⟩ := chr_at (s := s) (k := k) (by omega)
    have hc : s.data.toList[(k : Int).toNat]? = some c := by simpa using hc0
    have hcl := chrN_lt s k
    have hcl' : c.toNat < 256 := by omega
    have hwl := ofB_lt (mrgB_lt w s f k) 8
    rw [two64] at hwl
    have hp := put_ref h _ (f + k) c.toNat hwl (by omega) hcl'
    rw [Int.natCast_add] at hp
    have hsu := mrg_succ w s f k
    rw [← hcn] at hsu
    rw [hsu] at hp
    (repeat (first | refine WL_nil ?_ | refine WR_succ ?_ | refine Then_normal ?_ | refine W_seq ?_ | refine W_skip ?_ | refine W_ret ?_ | refine W_exit ?_ | refine W_block ?_ | refine Then_ret ?_ | refine Then_panic ?_ | refine inBlk_panic ?_ | refine Then_exit ?_ | refine inBlk_ret ?_ | refine inBlk_normal ?_ | refine inBlk_here ?_ | refine inBlk_out rfl ?_ | refine W_scope ?_ | refine W_label ?_ | refine noG_ret ?_ | refine noG_normal ?_ | refine noG_exit ?_ | refine W_true rfl ?_ | refine W_false rfl ?_))
    refine W_region rfl ?_
    (first | refine WL_is (X_move rfl rfl) rfl rfl rfl ?_)
    (first | refine WL_is (X_move rfl rfl) rfl rfl rfl ?_)
    (first | refine WL_is (X_len_sl rfl rfl rfl (by assumption)) rfl rfl rfl ?_ | refine WL_is (X_len rfl rfl rfl) rfl rfl rfl ?_ | refine WL_is (X_len_str rfl rfl rfl) rfl rfl rfl ?_)
    (first | refine WL_is (X_lss_t rfl rfl rfl (by omega)) rfl rfl rfl ?_ | refine WL_is (X_lss_f rfl rfl rfl (by omega)) rfl rfl rfl ?_ | refine WL_is (X_lss rfl rfl rfl) rfl rfl rfl ?_)
    (repeat (first | refine WL_nil ?_ | refine WR_succ ?_ | refine Then_normal ?_ | refine W_seq ?_ | refine W_skip ?_ | refine W_ret ?_ | refine W_exit ?_ | refine W_block ?_ | refine Then_ret ?_ | refine Then_panic ?_ | refine inBlk_panic ?_ | refine Then_exit ?_ | refine inBlk_ret ?_ | refine inBlk_normal ?_ | refine inBlk_here ?_ | refine inBlk_out rfl ?_ | refine W_scope ?_ | refine W_label ?_ | refine noG_ret ?_ | refine noG_normal ?_ | refine noG_exit ?_ | refine W_true rfl ?_ | refine W_false rfl ?_))
    (repeat (first | refine WL_nil ?_ | refine WR_succ ?_ | refine Then_normal ?_ | refine W_seq ?_ | refine W_skip ?_ | refine W_ret ?_ | refine W_exit ?_ | refine W_block ?_ | refine Then_ret ?_ | refine Then_panic ?_ | refine inBlk_panic ?_ | refine Then_exit ?_ | refine inBlk_ret ?_ | refine inBlk_normal ?_ | refine inBlk_here ?_ | refine inBlk_out rfl ?_ | refine W_scope ?_ | refine W_label ?_ | refine noG_ret ?_ | refine noG_normal ?_ | refine noG_exit ?_ | refine W_true rfl ?_ | refine W_false rfl ?_))
    refine W_region rfl ?_
    (first | refine WL_is (X_move rfl rfl) rfl rfl rfl ?_)
    (first | refine WL_is (X_move rfl rfl) rfl rfl rfl ?_)
    (first | refine WL_is (X_move rfl rfl) rfl rfl rfl ?_)
    (first | refine WL_is (X_addW rfl rfl rfl (by refine wrapL (by simp only [Int.reduceAdd] <;> rfl) ?_; decide)) rfl rfl rfl ?_ | refine WL_is (X_addW rfl rfl rfl (by first | exact wrap_i64_in (by omega) (by omega) | exact wrap_u16_in (by omega) (by omega) | exact wrap_u8_in (by omega) (by omega) | exact wrap_u64_in (by omega) (by omega))) rfl rfl rfl ?_ | refine WL_is (X_add rfl rfl rfl) rfl rfl rfl ?_ | refine WL_is (X_addS rfl rfl rfl (by omega)) rfl rfl rfl ?_)
    (first | refine WL_is (X_mulW rfl rfl rfl (by refine wrapL (by simp only [Int.reduceMul] <;> rfl) ?_; decide)) rfl rfl rfl ?_ | refine WL_is (X_mulW rfl rfl rfl (by first | exact wrap_i64_in (by omega) (by omega) | exact wrap_u16_in (by omega) (by omega) | exact wrap_u8_in (by omega) (by omega) | exact wrap_u64_in (by omega) (by omega))) rfl rfl rfl ?_ | refine WL_is (X_mul rfl rfl rfl) rfl rfl rfl ?_)
    (first | refine WL_is (X_move rfl rfl) rfl rfl rfl ?_)
    (first | refine WL_is (X_move rfl rfl) rfl rfl rfl ?_)
    (first | refine WL_is (X_index_val rfl rfl rfl rfl rfl rfl (by omega) (by omega) rfl) rfl rfl rfl ?_ | refine WL_is (X_index_valS (sz := 1) rfl rfl rfl rfl rfl rfl (by omega) (by omega) (by simp only [Int.toNat_natCast, Nat.mul_one] <;> rfl) (by assumption)) rfl rfl rfl ?_ | refine WL_is (X_index_valA (sz := 1) rfl rfl rfl rfl rfl rfl (by omega) (by omega) (by simp only [Int.toNat_natCast, Nat.mul_one] <;> rfl) (by simp only [List.drop_succ_cons, List.drop_zero, List.take_succ_cons, List.take_zero] <;> rfl)) rfl rfl rfl ?_ | refine WL_is (X_index_str rfl rfl rfl rfl (by omega) (by assumption)) rfl rfl rfl ?_)
    (first | refine WL_is (X_convW rfl rfl rfl rfl (by first | exact wrap_i64_in (by omega) (by omega) | exact wrap_u16_in (by omega) (by omega) | exact wrap_u8_in (by omega) (by omega) | exact wrap_u64_in (by omega) (by omega))) rfl rfl rfl ?_ | refine WL_is (X_conv rfl rfl rfl rfl) rfl rfl rfl ?_)
    (first | refine WL_is (X_callv rfl rfl rfl Try.func23 rfl (by assumption)) rfl rfl rfl ?_)
    (first | refine WL_is (X_move rfl rfl) rfl rfl rfl ?_)
    (first | refine WL_is (X_extract rfl rfl rfl) rfl rfl rfl ?_)
    (first | refine WL_is (X_extract rfl rfl rfl) rfl rfl rfl ?_)
    (first | refine WL_is (X_assign rfl rfl) rfl rfl rfl ?_)
    (first | refine WL_is (X_assign rfl rfl) rfl rfl rfl ?_)
    (repeat (first | refine WL_nil ?_ | refine WR_succ ?_ | refine Then_normal ?_ | refine W_seq ?_ | refine W_skip ?_ | refine W_ret ?_ | refine W_exit ?_ | refine W_block ?_ | refine Then_ret ?_ | refine Then_panic ?_ | refine inBlk_panic ?_ | refine Then_exit ?_ | refine inBlk_ret ?_ | refine inBlk_normal ?_ | refine inBlk_here ?_ | refine inBlk_out rfl ?_ | refine W_scope ?_ | refine W_label ?_ | refine noG_ret ?_ | refine noG_normal ?_ | refine noG_exit ?_ | refine W_true rfl ?_ | refine W_false rfl ?_))
    (repeat (first | refine WL_nil ?_ | refine WR_succ ?_ | refine Then_normal ?_ | refine W_seq ?_ | refine W_skip ?_ | refine W_ret ?_ | refine W_exit ?_ | refine W_block ?_ | refine Then_ret ?_ | refine Then_panic ?_ | refine inBlk_panic ?_ | refine Then_exit ?_ | refine inBlk_ret ?_ | refine inBlk_normal ?_ | refine inBlk_here ?_ | refine inBlk_out rfl ?_ | refine W_scope ?_ | refine W_label ?_ | refine noG_ret ?_ | refine noG_normal ?_ | refine noG_exit ?_ | refine W_true rfl ?_ | refine W_false rfl ?_))
    refine W_region rfl ?_
    (first | refine WL_is (X_move rfl rfl) rfl rfl rfl ?_)
    (first | refine WL_is (X_assign rfl rfl) rfl rfl rfl ?_)
    (repeat (first | refine WL_nil ?_ | refine WR_succ ?_ | refine Then_normal ?_ | refine W_seq ?_ | refine W_skip ?_ | refine W_ret ?_ | refine W_exit ?_ | refine W_block ?_ | refine Then_ret ?_ | refine Then_panic ?_ | refine inBlk_panic ?_ | refine Then_exit ?_ | refine inBlk_ret ?_ | refine inBlk_normal ?_ | refine inBlk_here ?_ | refine inBlk_out rfl ?_ | refine W_scope ?_ | refine W_label ?_ | refine noG_ret ?_ | refine noG_normal ?_ | refine noG_exit ?_ | refine W_true rfl ?_ | refine W_false rfl ?_))
    (repeat (first | refine WL_nil ?_ | refine WR_succ ?_ | refine Then_normal ?_ | refine W_seq ?_ | refine W_skip ?_ | refine W_ret ?_ | refine W_exit ?_ | refine W_block ?_ | refine Then_ret ?_ | refine Then_panic ?_ | refine inBlk_panic ?_ | refine Then_exit ?_ | refine inBlk_ret ?_ | refine inBlk_normal ?_ | refine inBlk_here ?_ | refine inBlk_out rfl ?_ | refine W_scope ?_ | refine W_label ?_ | refine noG_ret ?_ | refine noG_normal ?_ | refine noG_exit ?_ | refine W_true rfl ?_ | refine W_false rfl ?_))
    refine W_region rfl ?_
    (first | refine WL_is (X_move rfl rfl) rfl rfl rfl ?_)
    (first | refine WL_is (X_addW rfl rfl rfl (by refine wrapL (by simp only [Int.reduceAdd] <;> rfl) ?_; decide)) rfl rfl rfl ?_ | refine WL_is (X_addW rfl rfl rfl (by first | exact wrap_i64_in (by omega) (by omega) | exact wrap_u16_in (by omega) (by omega) | exact wrap_u8_in (by omega) (by omega) | exact wrap_u64_in (by omega) (by omega))) rfl rfl rfl ?_ | refine WL_is (X_add rfl rfl rfl) rfl rfl rfl ?_ | refine WL_is (X_addS rfl rfl rfl (by omega)) rfl rfl rfl ?_)
    (first | refine WL_is (X_assign rfl rfl) rfl rfl rfl ?_)
    (repeat (first | refine WL_nil ?_ | refine WR_succ ?_ | refine Then_normal ?_ | refine W_seq ?_ | refine W_skip ?_ | refine W_ret ?_ | refine W_exit ?_ | refine W_block ?_ | refine Then_ret ?_ | refine Then_panic ?_ | refine inBlk_panic ?_ | refine Then_exit ?_ | refine inBlk_ret ?_ | refine inBlk_normal ?_ | refine inBlk_here ?_ | refine inBlk_out rfl ?_ | refine W_scope ?_ | refine W_label ?_ | refine noG_ret ?_ | refine noG_normal ?_ | refine noG_exit ?_ | refine W_true rfl ?_ | refine W_false rfl ?_))
    exact ⟨k + 1, ⟨(by repeat (first | exact SubE_nil | refine SubE_cons rfl ?_)), rfl, SubR.refl _, rfl⟩, by omega, by omega⟩
  · have hks : k = s.size := by omega
    subst hks
    (repeat (first | refine WL_nil ?_ | refine WR_succ ?_ | refine Then_normal ?_ | refine W_seq ?_ | refine W_skip ?_ | refine W_ret ?_ | refine W_exit ?_ | refine W_block ?_ | refine Then_ret ?_ | refine Then_panic ?_ | refine inBlk_panic ?_ | refine Then_exit ?_ | refine inBlk_ret ?_ | refine inBlk_normal ?_ | refine inBlk_here ?_ | refine inBlk_out rfl ?_ | refine W_scope ?_ | refine W_label ?_ | refine noG_ret ?_ | refine noG_normal ?_ | refine noG_exit ?_ | refine W_true rfl ?_ | refine W_false rfl ?_))
    refine W_region rfl ?_
    (first | refine WL_is (X_move rfl rfl) rfl rfl rfl ?_)
    (first | refine WL_is (X_move rfl rfl) rfl rfl rfl ?_)
    (first | refine WL_is (X_len_sl rfl rfl rfl (by assumption)) rfl rfl rfl ?_ | refine WL_is (X_len rfl rfl rfl) rfl rfl rfl ?_ | refine WL_is (X_len_str rfl rfl rfl) rfl rfl rfl ?_)
    (first | refine WL_is (X_lss_t rfl rfl rfl (by omega)) rfl rfl rfl ?_ | refine WL_is (X_lss_f rfl rfl rfl (by omega)) rfl rfl rfl ?_ | refine WL_is (X_lss rfl rfl rfl) rfl rfl rfl ?_)
    (repeat (first | refine WL_nil ?_ | refine WR_succ ?_ | refine Then_normal ?_ | refine W_seq ?_ | refine W_skip ?_ | refine W_ret ?_ | refine W_exit ?_ | refine W_block ?_ | refine Then_ret ?_ | refine Then_panic ?_ | refine inBlk_panic ?_ | refine Then_exit ?_ | refine inBlk_ret ?_ | refine inBlk_normal ?_ | refine inBlk_here ?_ | refine inBlk_out rfl ?_ | refine W_scope ?_ | refine W_label ?_ | refine noG_ret ?_ | refine noG_normal ?_ | refine noG_exit ?_ | refine W_true rfl ?_ | refine W_false rfl ?_))
    (repeat (first | refine WL_nil ?_ | refine WR_succ ?_ | refine Then_normal ?_ | refine W_seq ?_ | refine W_skip ?_ | refine W_ret ?_ | refine W_exit ?_ | refine W_block ?_ | refine Then_ret ?_ | refine Then_panic ?_ | refine inBlk_panic ?_ | refine Then_exit ?_ | refine inBlk_ret ?_ | refine inBlk_normal ?_ | refine inBlk_here ?_ | refine inBlk_out rfl ?_ | refine W_scope ?_ | refine W_label ?_ | refine noG_ret ?_ | refine noG_normal ?_ | refine noG_exit ?_ | refine W_true rfl ?_ | refine W_false rfl ?_))
    refine W_region rfl ?_
    (first | refine WL_is (X_move rfl rfl) rfl rfl rfl ?_)
    (first | refine WL_is (X_assign rfl rfl) rfl rfl rfl ?_)
    (first | refine WL_is (X_assign rfl rfl) rfl rfl rfl ?_)
    (repeat (first | refine WL_nil ?_ | refine WR_succ ?_ | refine Then_normal ?_ | refine W_seq ?_ | refine W_skip ?_ | refine W_ret ?_ | refine W_exit ?_ | refine W_block ?_ | refine Then_ret ?_ | refine Then_panic ?_ | refine inBlk_panic ?_ | refine Then_exit ?_ | refine inBlk_ret ?_ | refine inBlk_normal ?_ | refine inBlk_here ?_ | refine inBlk_out rfl ?_ | refine W_scope ?_ | refine W_label ?_ | refine noG_ret ?_ | refine noG_normal ?_ | refine noG_exit ?_ | refine W_true rfl ?_ | refine W_false rfl ?_))
    refine Body_end rfl rfl rfl (SubR.none _) ?_
    rfl
end Go.Proofs.Ytoocbfpomamdeaa
