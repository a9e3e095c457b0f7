/- Names and paths: strings as lists of bytes; what the library answers on strings of one byte. -/
import Derived.Test.YtgpanbmjmpondaaEngZ
import Derived.Test.YtgpanbmjmpondaaBase
namespace Go.Proofs.Ytgpanbmjmpondaa
set_option maxRecDepth 4000
open Go Go.Par PH






abbrev Bs := List UInt8
def mkB (l : Bs) : ByteArray := ⟨l.toArray⟩
theorem mkB_of (s : ByteArray) : s = mkB s.data.toList := by cases s; simp [mkB]
theorem mkB_list (l : Bs) : (mkB l).data.toList = l := by simp [mkB]
theorem mkB_size (l : Bs) : (mkB l).size = l.length := by simp [mkB, ByteArray.size]
theorem mkB_inj {a b : Bs} : mkB a = mkB b ↔ a = b := by
  constructor
  · intro h; rw [← mkB_list a, h, mkB_list]
  · intro h; rw [h]
theorem mkB_beq (a b : Bs) : (mkB a == mkB b) = decide (a = b) := by
  rw [beqB_iff]; by_cases h : a = b <;> simp [h, mkB_inj]
theorem mkB_take (l : Bs) (k : Nat) : (mkB l).extract 0 k = mkB (l.take k) := by
  apply ByteArray.ext
  apply Array.toList_inj.1
  simp [mkB]
theorem mkB_drop (l : Bs) (k : Nat) : (mkB l).extract k (mkB l).size = mkB (l.drop k) := by
  rw [mkB_size]
  apply ByteArray.ext
  apply Array.toList_inj.1
  simp only [mkB, ByteArray.data_extract, List.extract_toArray]
  simp [List.take_of_length_le]
theorem mkB_append (a b : Bs) : mkB a ++ mkB b = mkB (a ++ b) := by
  apply ByteArray.ext
  apply Array.toList_inj.1
  simp [mkB]
theorem indexByte_eq (c : UInt8) : ∀ l : Bs, Lib.indexByte l c = if c ∈ l then ((l.takeWhile fun x => !decide (x = c)).length : Int) else -1
  | [] => by simp [Lib.indexByte]
  | b :: l => by
    have ih := indexByte_eq c l
    unfold Lib.indexByte
    by_cases hb : b = c
    · subst hb; simp
    · have hb' : (b == c) = false := by simpa using hb
      have hb2 : ¬ c = b := fun e => hb e.symm
      simp only [hb', Bool.false_eq_true, if_false, List.mem_cons, hb2, false_or, ih, List.takeWhile_cons, decide_eq_false hb, Bool.not_false, if_true, List.length_cons]
      by_cases hm : c ∈ l
      · simp only [if_pos hm]
        have : ¬ (((l.takeWhile fun x => !decide (x = c)).length : Int) = -1) := by omega
        split <;> simp_all <;> omega
      · simp only [if_neg hm]; simp
attribute [local irreducible] W WL Does Exec Body Then inBlk RG WR row obj pblk
theorem indexByte1_fn (h : PH) (s : ByteArray) (c : Int) : Does Try.prog 50 [.string s, .int .u8 c] [] h (Ret fun r R' _ => r = .int .i64 (Lib.indexByte s.data.toList c.toNat.toUInt8) ∧ R' = []) := by
  refine Does_of_W Try.func50 rfl (n := 8) rfl rfl (by simp only [argE, Nat.reduceAdd] <;> rfl) ?_
  (repeat (first | refine W_seq ?_))
  skip
  refine W_region rfl ?_
  refine WL_is (X_assign rfl rfl) rfl rfl rfl ?_
  (repeat (first | refine WL_nil ?_ | refine Then_normal ?_ | refine W_seq ?_))
  skip
  refine W_region rfl ?_
  refine WL_is (X_move rfl rfl) rfl rfl rfl ?_
  refine WL_is (X_move rfl rfl) rfl rfl rfl ?_
  refine WL_is (X_indexByteStr rfl rfl rfl Try.func54 (by kernel_rfl) (by kernel_rfl) (by kernel_rfl) (by kernel_rfl)) rfl rfl rfl ?_
  refine WL_is (X_assign rfl rfl) rfl rfl rfl ?_
  (repeat (first | refine WL_nil ?_ | refine Then_normal ?_ | refine W_ret ?_))
  exact Body_end rfl rfl rfl (SubR.none _) ⟨rfl, rfl⟩
theorem index1_fn (h : PH) (s : ByteArray) (c : UInt8) : Does Try.prog 48 [.string s, .string ⟨#[c]⟩] [] h (Ret fun r R' _ => r = .int .i64 (Lib.indexByte s.data.toList c) ∧ R' = []) := by
  have h1 : ((⟨#[c]⟩ : ByteArray).size : Int) = 1 := rfl
  have hb0 : (⟨#[c]⟩ : ByteArray).data.toList[Int.toNat 0]? = some c := rfl
  have hi := indexByte1_fn h s c.toNat
  rw [byte_back] at hi
  refine Does_of_W Try.func48 rfl (n := 143) rfl rfl (by simp only [argE, Nat.reduceAdd] <;> rfl) ?_
  cases hs : ((⟨#[c]⟩ : ByteArray) == s) with
  | true =>
    (repeat (first | refine W_seq ?_))
    skip
    refine W_region rfl ?_
    refine WL_is (X_assign rfl rfl) rfl rfl rfl ?_
    (repeat (first | refine WL_nil ?_ | refine Then_normal ?_ | refine W_seq ?_))
    skip
    refine W_region rfl ?_
    refine WL_is (X_move rfl rfl) rfl rfl rfl ?_
    refine WL_is (X_len_str rfl rfl rfl) rfl rfl rfl ?_
    refine WL_is (X_assign rfl rfl) rfl rfl rfl ?_
    (repeat (first | refine WL_nil ?_ | refine Then_normal ?_ | refine W_seq ?_ | refine W_block ?_))
    skip
    refine W_region rfl ?_
    refine WL_is (X_move rfl rfl) rfl rfl rfl ?_
    refine WL_is (X_eql_f rfl rfl rfl (by omega)) rfl rfl rfl ?_
    refine WL_is (X_move rfl rfl) rfl rfl rfl ?_
    refine WL_is (X_move rfl rfl) rfl rfl rfl ?_
    refine WL_is (X_move rfl rfl) rfl rfl rfl ?_
    refine WL_is (X_eqS_c rfl rfl rfl (by assumption)) rfl rfl rfl ?_
    refine WL_is (X_pick_f rfl rfl rfl) rfl rfl rfl ?_
    refine WL_is (X_assign rfl rfl) rfl rfl rfl ?_
    (repeat (first | refine WL_nil ?_ | refine Then_normal ?_ | refine W_seq ?_ | refine W_true rfl ?_))
    skip
    refine W_region rfl ?_
    refine WL_is (X_assign rfl rfl) rfl rfl rfl ?_
    (repeat (first | refine WL_nil ?_ | refine Then_normal ?_ | refine W_ret ?_ | refine Then_ret ?_ | refine inBlk_ret ?_))
    have e : (⟨#[c]⟩ : ByteArray) = s := ByteArray.ext (eq_of_beq (α := Array UInt8) hs)
    subst e
    exact Body_end rfl rfl rfl (SubR.none _) ⟨by simp [Lib.indexByte], rfl⟩
  | false =>
    (repeat (first | refine W_seq ?_))
    skip
    refine W_region rfl ?_
    refine WL_is (X_assign rfl rfl) rfl rfl rfl ?_
    (repeat (first | refine WL_nil ?_ | refine Then_normal ?_ | refine W_seq ?_))
    skip
    refine W_region rfl ?_
    refine WL_is (X_move rfl rfl) rfl rfl rfl ?_
    refine WL_is (X_len_str rfl rfl rfl) rfl rfl rfl ?_
    refine WL_is (X_assign rfl rfl) rfl rfl rfl ?_
    (repeat (first | refine WL_nil ?_ | refine Then_normal ?_ | refine W_seq ?_ | refine W_block ?_))
    skip
    refine W_region rfl ?_
    refine WL_is (X_move rfl rfl) rfl rfl rfl ?_
    refine WL_is (X_eql_f rfl rfl rfl (by omega)) rfl rfl rfl ?_
    refine WL_is (X_move rfl rfl) rfl rfl rfl ?_
    refine WL_is (X_move rfl rfl) rfl rfl rfl ?_
    refine WL_is (X_move rfl rfl) rfl rfl rfl ?_
    refine WL_is (X_eqS_c rfl rfl rfl (by assumption)) rfl rfl rfl ?_
    refine WL_is (X_pick_f rfl rfl rfl) rfl rfl rfl ?_
    refine WL_is (X_assign rfl rfl) rfl rfl rfl ?_
    (repeat (first | refine WL_nil ?_ | refine Then_normal ?_ | refine W_seq ?_ | refine W_false rfl ?_))
    skip
    refine W_region rfl ?_
    refine WL_is (X_move rfl rfl) rfl rfl rfl ?_
    refine WL_is (X_eql_t rfl rfl rfl (by omega)) rfl rfl rfl ?_
    refine WL_is (X_assign rfl rfl) rfl rfl rfl ?_
    (repeat (first | refine WL_nil ?_ | refine Then_normal ?_ | refine W_seq ?_ | refine W_true rfl ?_))
    skip
    refine W_region rfl ?_
    refine WL_is (X_move rfl rfl) rfl rfl rfl ?_
    refine WL_is (X_move rfl rfl) rfl rfl rfl ?_
    refine WL_is (X_index_str rfl rfl rfl rfl (by omega) (by assumption)) rfl rfl rfl ?_
    refine WL_call rfl rfl rfl Try.func50 rfl rfl rfl rfl hi ?_
    rintro _ _ h2 - ⟨rfl, rfl⟩
    simp only [List.nil_append]
    refine WL_is (X_assign rfl rfl) rfl rfl rfl ?_
    (repeat (first | refine WL_nil ?_ | refine Then_normal ?_ | refine W_ret ?_ | refine Then_ret ?_ | refine inBlk_ret ?_))
    exact Body_end rfl rfl rfl (SubR.none _) ⟨rfl, rfl⟩
theorem strIndex1_fn (h : PH) (s : ByteArray) (c : UInt8) : Does Try.prog 46 [.string s, .string ⟨#[c]⟩] [] h (Ret fun r R' _ => r = .int .i64 (Lib.indexByte s.data.toList c) ∧ R' = []) := by
  have hi := index1_fn h s c
  refine Does_of_W Try.func46 rfl (n := 8) rfl rfl (by simp only [argE, Nat.reduceAdd] <;> rfl) ?_
  (repeat (first | refine W_seq ?_))
  skip
  refine W_region rfl ?_
  refine WL_is (X_assign rfl rfl) rfl rfl rfl ?_
  (repeat (first | refine WL_nil ?_ | refine Then_normal ?_ | refine W_seq ?_))
  skip
  refine W_region rfl ?_
  refine WL_is (X_move rfl rfl) rfl rfl rfl ?_
  refine WL_is (X_move rfl rfl) rfl rfl rfl ?_
  refine WL_call rfl rfl rfl Try.func48 rfl rfl rfl rfl hi ?_
  rintro _ _ h2 - ⟨rfl, rfl⟩
  simp only [List.nil_append]
  refine WL_is (X_assign rfl rfl) rfl rfl rfl ?_
  (repeat (first | refine WL_nil ?_ | refine Then_normal ?_ | refine W_ret ?_))
  exact Body_end rfl rfl rfl (SubR.none _) ⟨rfl, rfl⟩
theorem contains1_fn (h : PH) (s : ByteArray) (c : UInt8) : Does Try.prog 42 [.string s, .string ⟨#[c]⟩] [] h (Ret fun r _ _ => r = .bool (decide (c ∈ s.data.toList))) := by
  have hi := strIndex1_fn h s c
  have hm := indexByte_mem (c := c) (l := s.data.toList)
  generalize Lib.indexByte s.data.toList c = x at hi hm
  refine Does_of_W Try.func42 rfl (n := 9) rfl rfl (by simp only [argE, Nat.reduceAdd] <;> rfl) ?_
  by_cases hc : c ∈ s.data.toList
  · have hx := hm.2 hc
    (repeat (first | refine W_seq ?_))
    skip
    refine W_region rfl ?_
    refine WL_is (X_assign rfl rfl) rfl rfl rfl ?_
    (repeat (first | refine WL_nil ?_ | refine Then_normal ?_ | refine W_seq ?_))
    skip
    refine W_region rfl ?_
    refine WL_is (X_move rfl rfl) rfl rfl rfl ?_
    refine WL_is (X_move rfl rfl) rfl rfl rfl ?_
    refine WL_call rfl rfl rfl Try.func46 rfl rfl rfl rfl hi ?_
    rintro _ _ h2 - ⟨rfl, rfl⟩
    simp only [List.nil_append]
    refine WL_is (X_geq_t rfl rfl rfl (by omega)) rfl rfl rfl ?_
    refine WL_is (X_assign rfl rfl) rfl rfl rfl ?_
    (repeat (first | refine WL_nil ?_ | refine Then_normal ?_ | refine W_ret ?_))
    refine Body_end rfl rfl rfl (SubR.none _) ?_
    rw [decide_eq_true hc]
  · have hx : ¬ 0 ≤ x := fun h => hc (hm.1 h)
    (repeat (first | refine W_seq ?_))
    skip
    refine W_region rfl ?_
    refine WL_is (X_assign rfl rfl) rfl rfl rfl ?_
    (repeat (first | refine WL_nil ?_ | refine Then_normal ?_ | refine W_seq ?_))
    skip
    refine W_region rfl ?_
    refine WL_is (X_move rfl rfl) rfl rfl rfl ?_
    refine WL_is (X_move rfl rfl) rfl rfl rfl ?_
    refine WL_call rfl rfl rfl Try.func46 rfl rfl rfl rfl hi ?_
    rintro _ _ h2 - ⟨rfl, rfl⟩
    simp only [List.nil_append]
    refine WL_is (X_geq_f rfl rfl rfl (by omega)) rfl rfl rfl ?_
    refine WL_is (X_assign rfl rfl) rfl rfl rfl ?_
    (repeat (first | refine WL_nil ?_ | refine Then_normal ?_ | refine W_ret ?_))
    refine Body_end rfl rfl rfl (SubR.none _) ?_
    rw [decide_eq_false hc]
def cutF (l : Bs) : Bs := l.takeWhile fun x => !decide (x = 47)
def cutS (l : Bs) : Bs := (l.dropWhile fun x => !decide (x = 47)).drop 1
theorem cut_drop (l : Bs) : l.drop ((cutF l).length + 1) = cutS l := by
  unfold cutF cutS
  induction l with
  | nil => rfl
  | cons b l ih =>
    by_cases hb : b = 47
    · simp [hb]
    · simp only [List.takeWhile_cons, List.dropWhile_cons, decide_eq_false hb, Bool.not_false, if_true, List.length_cons, List.drop_succ_cons]
      exact ih
theorem cut_take (l : Bs) : l.take (cutF l).length = cutF l := by
  unfold cutF
  induction l with
  | nil => rfl
  | cons b l ih =>
    by_cases hb : b = 47
    · simp [hb]
    · simp only [List.takeWhile_cons, decide_eq_false hb, Bool.not_false, if_true, List.length_cons, List.take_succ_cons, ih]
theorem cut_len (l : Bs) (h : (47 : UInt8) ∈ l) : (cutF l).length < l.length := by
  unfold cutF
  induction l with
  | nil => cases h
  | cons b l ih =>
    by_cases hb : b = 47
    · simp [hb]
    · have h2 : (47 : UInt8) ∈ l := by
        rcases List.mem_cons.1 h with e | h
        · exact absurd e.symm hb
        · exact h
      have := ih h2
      simp only [List.takeWhile_cons, decide_eq_false hb, Bool.not_false, if_true, List.length_cons]; omega
theorem cut_none (l : Bs) (h : ¬ (47 : UInt8) ∈ l) : cutF l = l ∧ cutS l = [] := by
  unfold cutF cutS
  induction l with
  | nil => exact ⟨rfl, rfl⟩
  | cons b l ih =>
    simp only [List.mem_cons, not_or] at h
    have hb : ¬ b = 47 := fun e => h.1 e.symm
    obtain ⟨h1, h2⟩ := ih h.2
    simp only [List.takeWhile_cons, List.dropWhile_cons, decide_eq_false hb, Bool.not_false, if_true, h1, h2, and_self]
theorem sl1 : (⟨#[47]⟩ : ByteArray).size = 1 := rfl
def headB (l : Bs) : Bool := decide (l.take 1 = [47])
def lastB (l : Bs) : Bool := decide (l.drop (l.length - 1) = [47])
end Go.Proofs.Ytgpanbmjmpondaa
