/- Names and paths: strings as lists of bytes; what the library answers on strings of one byte. -/
import Derived.Test.YthcolbdlalpcjaaEngV
import Derived.Test.YthcolbdlalpcjaaBase
namespace Go.Proofs.Ythcolbdlalpcjaa
set_option maxRecDepth 4000
open Go Go.Par PH
abbrev Bs := List UInt8
def mkB (l : Bs) : ByteArray := ⟨l.toArray⟩
theorem mkB_of (s : ByteArray) : s = mkB s.data.toList := by cases s; simp [mkB]
theorem mkB_list (l : Bs) : (mkB l).data.toList = l := by simp [mkB]
theorem mkB_size (l : Bs) : (mkB l).size = l.length := by simp [mkB, ByteArray.size]
theorem mkB_inj {a b : Bs} : mkB a = mkB b ↔ a = b := by
  constructor
  · intro h; rw [← mkB_list a, h, mkB_list]
  · intro h; rw [h]
theorem mkB_beq (a b : Bs) : (mkB a == mkB b) = decide (a = b) := by
  rw [beqB_iff]; by_cases h : a = b <;> simp [h, mkB_inj]
theorem mkB_take (l : Bs) (k : Nat) : (mkB l).extract 0 k = mkB (l.take k) := by
  apply ByteArray.ext
  apply Array.toList_inj.1
  simp [mkB]
theorem mkB_drop (l : Bs) (k : Nat) : (mkB l).extract k (mkB l).size = mkB (l.drop k) := by
  rw [mkB_size]
  apply ByteArray.ext
  apply Array.toList_inj.1
  simp only [mkB, ByteArray.data_extract, List.extract_toArray]
  simp [List.take_of_length_le]
theorem mkB_append (a b : Bs) : mkB a ++ mkB b = mkB (a ++ b) := by
  apply ByteArray.ext
  apply Array.toList_inj.1
  simp [mkB]
theorem indexByte_eq (c : UInt8) : ∀ l : Bs, Lib.indexByte l c = if c ∈ l then ((l.takeWhile fun x => !decide (x = c)).length : Int) else -1
  | [] => by simp [Lib.indexByte]
  | b :: l => by
    have ih := indexByte_eq c l
    unfold Lib.indexByte
    by_cases hb : b = c
    · subst hb; simp
    · have hb' : (b == c) = false := by simpa using hb
      have hb2 : ¬ c = b := fun e => hb e.symm
      simp only [hb', Bool.false_eq_true, if_false, List.mem_cons, hb2, false_or, ih, List.takeWhile_cons, decide_eq_false hb, Bool.not_false, if_true, List.length_cons]
      by_cases hm : c ∈ l
      · simp only [if_pos hm]
        have : ¬ (((l.takeWhile fun x => !decide (x = c)).length : Int) = -1) := by omega
        split <;> simp_all <;> omega
      · simp only [if_neg hm]; simp
attribute [local irreducible] W WL Does Exec Body Then inBlk RG WR row obj pblk
theorem indexByte1_fn (h : PH) (s : ByteArray) (c : Int) : Does Try.prog 45 [.string s, .int .u8 c] [] h (Ret fun r R' _ => r = .int .i64 (Lib.indexByte s.data.toList c.toNat.toUInt8) ∧ R' = []) := by
  refine Does_of_W Try.func45 rfl (n := 8) rfl rfl (by simp only [argE, Nat.reduceAdd] <;> rfl) ?_
  (repeat (first | refine W_seq ?_))
  skip
  refine W_region rfl ?_
  refine WL_is (X_assign rfl rfl) rfl rfl rfl ?_
  (repeat (first | refine WL_nil ?_ | refine Then_normal ?_ | refine W_seq ?_))
  skip
  refine W_region rfl ?_
  refine WL_is (X_move rfl rfl) rfl rfl rfl ?_
  refine WL_is (X_move rfl rfl) rfl rfl rfl ?_
  refine WL_is (X_indexByteStr rfl rfl rfl Try.func50 (by kernel_rfl) (by kernel_rfl) (by kernel_rfl) (by kernel_rfl)) rfl rfl rfl ?_
  refine WL_is (X_assign rfl rfl) rfl rfl rfl ?_
  (repeat (first | refine WL_nil ?_ | refine Then_normal ?_ | refine W_ret ?_))
  exact Body_end rfl rfl rfl (SubR.none _) ⟨rfl, rfl⟩
theorem index1_fn (h : PH) (s : ByteArray) (c : UInt8) : Does Try.prog 40 [.string s, .string ⟨#[c]⟩] [] h (Ret fun r R' _ => r = .int .i64 (Lib.indexByte s.data.toList c) ∧ R' = []) := by
  have h1 : ((⟨#[c]⟩ : ByteArray).size : Int) = 1 := rfl
  have hb0 : (⟨#[c]⟩ : ByteArray).data.toList[Int.toNat 0]? = some c := rfl
  have hi := indexByte1_fn h s c.toNat
  rw [byte_back] at hi
  refine Does_of_W Try.func40 rfl (n := 143) rfl rfl (by simp only [argE, Nat.reduceAdd] <;> rfl) ?_
  cases hs : ((⟨#[c]⟩ : ByteArray) == s) with
  | true =>
    (repeat (first | refine W_seq ?_))
    skip
    refine W_region rfl ?_
    refine WL_is (X_assign rfl rfl) rfl rfl rfl ?_
    (repeat (first | refine WL_nil ?_ | refine Then_normal ?_ | refine W_seq ?_))
    skip
    refine W_region rfl ?_
    refine WL_is (X_move rfl rfl) rfl rfl rfl ?_
    refine WL_is (X_len_str rfl rfl rfl) rfl rfl rfl ?_
    refine WL_is (X_assign rfl rfl) rfl rfl rfl ?_
    (repeat (first | refine WL_nil ?_ | refine Then_normal ?_ | refine W_seq ?_ | refine W_block ?_))
    skip
    refine W_region rfl ?_
    refine WL_is (X_move rfl rfl) rfl rfl rfl ?_
    refine WL_is (X_eql_f rfl rfl rfl (by omega)) rfl rfl rfl ?_
    refine WL_is (X_move rfl rfl) rfl rfl rfl ?_
    refine WL_is (X_move rfl rfl) rfl rfl rfl ?_
    refine WL_is (X_move rfl rfl) rfl rfl rfl ?_
    refine WL_is (X_eqS_c rfl rfl rfl (by assumption)) rfl rfl rfl ?_
    refine WL_is (X_pick_f rfl rfl rfl) rfl rfl rfl ?_
    refine WL_is (X_assign rfl rfl) rfl rfl rfl ?_
    (repeat (first | refine WL_nil ?_ | refine Then_normal ?_ | refine W_seq ?_ | refine W_true rfl ?_))
    skip
    refine W_region rfl ?_
    refine WL_is (X_assign rfl rfl) rfl rfl rfl ?_
    (repeat (first | refine WL_nil ?_ | refine Then_normal ?_ | refine W_ret ?_ | refine Then_ret ?_ | refine inBlk_ret ?_))
    have e : (⟨#[c]⟩ : ByteArray) = s := ByteArray.ext (eq_of_beq (α := Array UInt8) hs)
    subst e
    exact Body_end rfl rfl rfl (SubR.none _) ⟨by simp [Lib.indexByte], rfl⟩
  | false =>
    (repeat (first | refine W_seq ?_))
    skip
    refine W_region rfl ?_
    refine WL_is (X_assign rfl rfl) rfl rfl rfl ?_
    (repeat (first | refine WL_nil ?_ | refine Then_normal ?_ | refine W_seq ?_))
    skip
    refine W_region rfl ?_
    refine WL_is (X_move rfl rfl) rfl rfl rfl ?_
    refine WL_is (X_len_str rfl rfl rfl) rfl rfl rfl ?_
    refine WL_is (X_assign rfl rfl) rfl rfl rfl ?_
    (repeat (first | refine WL_nil ?_ | refine Then_normal ?_ | refine W_seq ?_ | refine W_block ?_))
    skip
    refine W_region rfl ?_
    refine WL_is (X_move rfl rfl) rfl rfl rfl ?_
    refine WL_is (X_eql_f rfl rfl rfl (by omega)) rfl rfl rfl ?_
    refine WL_is (X_move rfl rfl) rfl rfl rfl ?_
    refine WL_is (X_move rfl rfl) rfl rfl rfl ?_
    refine WL_is (X_move rfl rfl) rfl rfl rfl ?_
    refine WL_is (X_eqS_c rfl rfl rfl (by assumption)) rfl rfl rfl ?_
    refine WL_is (X_pick_f rfl rfl rfl) rfl rfl rfl ?_
    refine WL_is (X_assign rfl rfl) rfl rfl rfl ?_
    (repeat (first | refine WL_nil ?_ | refine Then_normal ?_ | refine W_seq ?_ | refine W_false rfl ?_))
    skip
    refine W_region rfl ?_
    refine WL_is (X_move rfl rfl) rfl rfl rfl ?_
    refine WL_is (X_eql_t rfl rfl rfl (by omega)) rfl rfl rfl ?_
    refine WL_is (X_assign rfl rfl) rfl rfl rfl ?_
    (repeat (first | refine WL_nil ?_ | refine Then_normal ?_ | refine W_seq ?_ | refine W_true rfl ?_))
    skip
    refine W_region rfl ?_
    refine WL_is (X_move rfl rfl) rfl rfl rfl ?_
    refine WL_is (X_move rfl rfl) rfl rfl rfl ?_
    refine WL_is (X_index_str rfl rfl rfl rfl (by omega) (by assumption)) rfl rfl rfl ?_
    refine WL_call rfl rfl rfl Try.func45 rfl rfl rfl rfl hi ?_
    rintro _ _ h2 - ⟨rfl, rfl⟩
    simp only [List.nil_append]
    refine WL_is (X_assign rfl rfl) rfl rfl rfl ?_
    (repeat (first | refine WL_nil ?_ | refine Then_normal ?_ | refine W_ret ?_ | refine Then_ret ?_ | refine inBlk_ret ?_))
    exact Body_end rfl rfl rfl (SubR.none _) ⟨rfl, rfl⟩
theorem strIndex1_fn (h : PH) (s : ByteArray) (c : UInt8) : Does Try.prog 31 [.string s, .string ⟨#[c]⟩] [] h (Ret fun r R' _ => r = .int .i64 (Lib.indexByte s.data.toList c) ∧ R' = []) := by
  have hi := index1_fn h s c
  refine Does_of_W Try.func31 rfl (n := 8) rfl rfl (by simp only [argE, Nat.reduceAdd] <;> rfl) ?_
  (repeat (first | refine W_seq ?_))
  skip
  refine W_region rfl ?_
  refine WL_is (X_assign rfl rfl) rfl rfl rfl ?_
  (repeat (first | refine WL_nil ?_ | refine Then_normal ?_ | refine W_seq ?_))
  skip
  refine W_region rfl ?_
  refine WL_is (X_move rfl rfl) rfl rfl rfl ?_
  refine WL_is (X_move rfl rfl) rfl rfl rfl ?_
  refine WL_call rfl rfl rfl Try.func40 rfl rfl rfl rfl hi ?_
  rintro _ _ h2 - ⟨rfl, rfl⟩
  simp only [List.nil_append]
  refine WL_is (X_assign rfl rfl) rfl rfl rfl ?_
  (repeat (first | refine WL_nil ?_ | refine Then_normal ?_ | refine W_ret ?_))
  exact Body_end rfl rfl rfl (SubR.none _) ⟨rfl, rfl⟩
theorem contains1_fn (h : PH) (s : ByteArray) (c : UInt8) : Does Try.prog 20 [.string s, .string ⟨#[c]⟩] [] h (Ret fun r _ _ => r = .bool (decide (c ∈ s.data.toList))) := by
  have hi := strIndex1_fn h s c
  have hm := indexByte_mem (c := c) (l := s.data.toList)
  generalize Lib.indexByte s.data.toList c = x at hi hm
  refine Does_of_W Try.func20 rfl (n := 9) rfl rfl (by simp only [argE, Nat.reduceAdd] <;> rfl) ?_
  by_cases hc : c ∈ s.data.toList
  · have hx := hm.2 hc
    (repeat (first | refine W_seq ?_))
    skip
    refine W_region rfl ?_
    refine WL_is (X_assign rfl rfl) rfl rfl rfl ?_
    (repeat (first | refine WL_nil ?_ | refine Then_normal ?_ | refine W_seq ?_))
    skip
    refine W_region rfl ?_
    refine WL_is (X_move rfl rfl) rfl rfl rfl ?_
    refine WL_is (X_move rfl rfl) rfl rfl rfl ?_
    refine WL_call rfl rfl rfl Try.func31 rfl rfl rfl rfl hi ?_
    rintro _ _ h2 - ⟨rfl, rfl⟩
    simp only [List.nil_append]
    refine WL_is (X_geq_t rfl rfl rfl (by omega)) rfl rfl rfl ?_
    refine WL_is (X_assign rfl rfl) rfl rfl rfl ?_
    (repeat (first | refine WL_nil ?_ | refine Then_normal ?_ | refine W_ret ?_))
    refine Body_end rfl rfl rfl (SubR.none _) ?_
    rw [decide_eq_true hc]
  · have hx : ¬ 0 ≤ x := fun h => hc (hm.1 h)
    (repeat (first | refine W_seq ?_))
    skip
    refine W_region rfl ?_
    refine WL_is (X_assign rfl rfl) rfl rfl rfl ?_
    (repeat (first | refine WL_nil ?_ | refine Then_normal ?_ | refine W_seq ?_))
    skip
    refine W_region rfl ?_
    refine WL_is (X_move rfl rfl) rfl rfl rfl ?_
    refine WL_is (X_move rfl rfl) rfl rfl rfl ?_
    refine WL_call rfl rfl rfl Try.func31 rfl rfl rfl rfl hi ?_
    rintro _ _ h2 - ⟨rfl, rfl⟩
    simp only [List.nil_append]
    refine WL_is (X_geq_f rfl rfl rfl (by omega)) rfl rfl rfl ?_
    refine WL_is (X_assign rfl rfl) rfl rfl rfl ?_
    (repeat (first | refine WL_nil ?_ | refine Then_normal ?_ | refine W_ret ?_))
    refine Body_end rfl rfl rfl (SubR.none _) ?_
    rw [decide_eq_false hc]
def cutF (l : Bs) : Bs := l.takeWhile fun x => !decide (x = 47)
def cutS (l : Bs) : Bs := (l.dropWhile fun x => !decide (x = 47)).drop 1
theorem cut_drop (l : Bs) : l.drop ((cutF l).length + 1) = cutS l := by
  unfold cutF cutS
  induction l with
  | nil => rfl
  | cons b l ih =>
    by_cases hb : b = 47
    · simp [hb]
    · simp only [List.takeWhile_cons, List.dropWhile_cons, decide_eq_false hb, Bool.not_false, if_true, List.length_cons, List.drop_succ_cons]
      exact ih
theorem cut_take (l : Bs) : l.take (cutF l).length = cutF l := by
  unfold cutF
  induction l with
  | nil => rfl
  | cons b l ih =>
    by_cases hb : b = 47
    · simp [hb]
    · simp only [List.takeWhile_cons, decide_eq_false hb, Bool.not_false, if_true, List.length_cons, List.take_succ_cons, ih]
theorem cut_len (l : Bs) (h : (47 : UInt8) ∈ l) : (cutF l).length < l.length := by
  unfold cutF
  induction l with
  | nil => cases h
  | cons b l ih =>
    by_cases hb : b = 47
    · simp [hb]
    · have h2 : (47 : UInt8) ∈ l := by
        rcases List.mem_cons.1 h with e | h
        · exact absurd e.symm hb
        · exact h
      have := ih h2
      simp only [List.takeWhile_cons, decide_eq_false hb, Bool.not_false, if_true, List.length_cons]; omega
theorem cut_none (l : Bs) (h : ¬ (47 : UInt8) ∈ l) : cutF l = l ∧ cutS l = [] := by
  unfold cutF cutS
  induction l with
  | nil => exact ⟨rfl, rfl⟩
  | cons b l ih =>
    simp only [List.mem_cons, not_or] at h
    have hb : ¬ b = 47 := fun e => h.1 e.symm
    obtain ⟨h1, h2⟩ := ih h.2
    simp only [List.takeWhile_cons, List.dropWhile_cons, decide_eq_false hb, Bool.not_false, if_true, h1, h2, and_self]
theorem sl1 : (⟨#[47]⟩ : ByteArray).size = 1 := rfl
theorem cut1_fn (h : PH) (l : Bs) (hl : l.length ≤ 1000000) : Does Try.prog 42 [.string (mkB l), .string ⟨#[47]⟩] [] h (Ret fun r R' _ => r = .tuple #[.string (mkB (cutF l)), .string (mkB (cutS l)), .bool (decide ((47 : UInt8) ∈ l))] ∧ R' = []) := by
  have hi := index1_fn h (mkB l) 47
  rw [mkB_list, indexByte_eq] at hi
  have h1 : ((⟨#[47]⟩ : ByteArray).size : Int) = 1 := rfl
  have hsz := mkB_size l
  refine Does_of_W Try.func42 rfl (n := 23) rfl rfl (by simp only [argE, Nat.reduceAdd] <;> rfl) ?_
  by_cases hm : (47 : UInt8) ∈ l
  · rw [if_pos hm] at hi
    have hlt := cut_len l hm
    have hd := mkB_drop l ((cutF l).length + 1)
    have ht := mkB_take l (cutF l).length
    rw [cut_take] at ht
    rw [cut_drop] at hd
    change Does _ _ _ _ _ (Ret fun r R' _ => r = .int .i64 ((cutF l).length : Int) ∧ R' = []) at hi
    generalize hk : (cutF l).length = k at *
    (repeat (first | refine W_seq ?_))
    skip
    refine W_region rfl ?_
    refine WL_is (X_assign rfl rfl) rfl rfl rfl ?_
    refine WL_is (X_assign rfl rfl) rfl rfl rfl ?_
    refine WL_is (X_assign rfl rfl) rfl rfl rfl ?_
    (repeat (first | refine WL_nil ?_ | refine Then_normal ?_ | refine W_seq ?_))
    skip
    refine W_region rfl ?_
    refine WL_is (X_move rfl rfl) rfl rfl rfl ?_
    refine WL_is (X_move rfl rfl) rfl rfl rfl ?_
    refine WL_call rfl rfl rfl Try.func40 rfl rfl rfl rfl hi ?_
    rintro _ _ h2 - ⟨rfl, rfl⟩
    simp only [List.nil_append]
    refine WL_is (X_assign rfl rfl) rfl rfl rfl ?_
    (repeat (first | refine WL_nil ?_ | refine Then_normal ?_ | refine W_seq ?_))
    skip
    refine W_region rfl ?_
    refine WL_is (X_move rfl rfl) rfl rfl rfl ?_
    refine WL_is (X_geq_t rfl rfl rfl (by omega)) rfl rfl rfl ?_
    (repeat (first | refine WL_nil ?_ | refine Then_normal ?_ | refine W_seq ?_ | refine W_true rfl ?_))
    refine W_keep (SubE_cons (t := 0) rfl (SubE_cons (t := 1) rfl (SubE_cons (t := 7) rfl SubE_nil))) ?_
    skip
    refine W_draw0 10 rfl rfl rfl rfl ?_
    refine RG_val rfl rfl (fun _ => rfl) (fun _ => X_move rfl rfl) ?_
    refine RG_val rfl rfl (fun _ => rfl) (fun _ => X_move rfl rfl) ?_
    refine RG_val rfl rfl (fun _ => rfl) (fun _ => X_sliceS_hi rfl rfl rfl rfl (by omega) (by omega)) ?_
    refine RG_val rfl rfl (fun _ => rfl) (fun _ => X_move rfl rfl) ?_
    refine RG_val rfl rfl (fun _ => rfl) (fun _ => X_move rfl rfl) ?_
    refine RG_val rfl rfl (fun _ => rfl) (fun _ => X_move rfl rfl) ?_
    refine RG_val rfl rfl (fun _ => rfl) (fun _ => X_len_str rfl rfl rfl) ?_
    refine RG_val rfl rfl (fun _ => rfl) (fun _ => X_addW rfl rfl rfl (by exact wrap_i64_in (by omega) (by omega))) ?_
    refine RG_val rfl rfl (fun _ => rfl) (fun _ => X_sliceS_lo rfl rfl rfl rfl (by omega) (by omega)) ?_
    refine RG_val rfl rfl (fun _ => rfl) (fun _ => X_assign rfl rfl) ?_
    refine RG_nil ?_
    refine RG_endv rfl (fun vs => by simp only [endE, List.cons_append, List.nil_append] <;> rfl) (fun vs => rfl) ?_
    refine WL_is (X_assign rfl rfl) rfl rfl rfl ?_
    refine WL_is (X_assign rfl rfl) rfl rfl rfl ?_
    (repeat (first | refine WL_nil ?_ | refine Then_normal ?_ | refine W_ret ?_ | refine Then_ret ?_))
    refine Body_vals (.cons (.tmp rfl) (.cons (.tmp rfl) (.cons (.tmp rfl) .nil))) rfl ?_
    refine UpdE.of (Upd.refl _ _) ⟨?_, rfl⟩
    simp only [Int.toNat_natCast, ht, h1, decide_eq_true hm]
    rw [show ((k : Int) + 1).toNat = k + 1 from by omega, hd]
  · rw [if_neg hm] at hi
    obtain ⟨e1, e2⟩ := cut_none l hm
    rw [e1, e2, decide_eq_false hm]
    (repeat (first | refine W_seq ?_))
    skip
    refine W_region rfl ?_
    refine WL_is (X_assign rfl rfl) rfl rfl rfl ?_
    refine WL_is (X_assign rfl rfl) rfl rfl rfl ?_
    refine WL_is (X_assign rfl rfl) rfl rfl rfl ?_
    (repeat (first | refine WL_nil ?_ | refine Then_normal ?_ | refine W_seq ?_))
    skip
    refine W_region rfl ?_
    refine WL_is (X_move rfl rfl) rfl rfl rfl ?_
    refine WL_is (X_move rfl rfl) rfl rfl rfl ?_
    refine WL_call rfl rfl rfl Try.func40 rfl rfl rfl rfl hi ?_
    rintro _ _ h2 - ⟨rfl, rfl⟩
    simp only [List.nil_append]
    refine WL_is (X_assign rfl rfl) rfl rfl rfl ?_
    (repeat (first | refine WL_nil ?_ | refine Then_normal ?_ | refine W_seq ?_))
    skip
    refine W_region rfl ?_
    refine WL_is (X_move rfl rfl) rfl rfl rfl ?_
    refine WL_is (X_geq_f rfl rfl rfl (by omega)) rfl rfl rfl ?_
    (repeat (first | refine WL_nil ?_ | refine Then_normal ?_ | refine W_seq ?_ | refine W_skip ?_ | refine W_false rfl ?_))
    skip
    refine W_region rfl ?_
    refine WL_is (X_move rfl rfl) rfl rfl rfl ?_
    refine WL_is (X_assign rfl rfl) rfl rfl rfl ?_
    refine WL_is (X_assign rfl rfl) rfl rfl rfl ?_
    refine WL_is (X_assign rfl rfl) rfl rfl rfl ?_
    (repeat (first | refine WL_nil ?_ | refine Then_normal ?_ | refine W_ret ?_))
    refine Body_vals (.cons (.tmp rfl) (.cons (.tmp rfl) (.cons (.tmp rfl) .nil))) rfl ?_
    exact UpdE.of (Upd.refl _ _) ⟨rfl, rfl⟩
theorem strCut1_fn (h : PH) (l : Bs) (hl : l.length ≤ 1000000) : Does Try.prog 35 [.string (mkB l), .string ⟨#[47]⟩] [] h (Ret fun r _ _ => r = .tuple #[.string (mkB (cutF l)), .string (mkB (cutS l)), .bool (decide ((47 : UInt8) ∈ l))]) := by
  have hi := cut1_fn h l hl
  refine Does_of_W Try.func35 rfl (n := 13) rfl rfl (by simp only [argE, Nat.reduceAdd] <;> rfl) ?_
  (repeat (first | refine W_seq ?_))
  skip
  refine W_region rfl ?_
  refine WL_is (X_assign rfl rfl) rfl rfl rfl ?_
  refine WL_is (X_assign rfl rfl) rfl rfl rfl ?_
  refine WL_is (X_assign rfl rfl) rfl rfl rfl ?_
  (repeat (first | refine WL_nil ?_ | refine Then_normal ?_ | refine W_seq ?_))
  skip
  refine W_region rfl ?_
  refine WL_is (X_move rfl rfl) rfl rfl rfl ?_
  refine WL_is (X_move rfl rfl) rfl rfl rfl ?_
  refine WL_call rfl rfl rfl Try.func42 rfl rfl rfl rfl hi ?_
  rintro _ _ h2 - ⟨rfl, rfl⟩
  simp only [List.nil_append]
  refine WL_is (X_extract rfl rfl rfl) rfl rfl rfl ?_
  refine WL_is (X_extract rfl rfl rfl) rfl rfl rfl ?_
  refine WL_is (X_extract rfl rfl rfl) rfl rfl rfl ?_
  refine WL_is (X_assign rfl rfl) rfl rfl rfl ?_
  refine WL_is (X_assign rfl rfl) rfl rfl rfl ?_
  refine WL_is (X_assign rfl rfl) rfl rfl rfl ?_
  (repeat (first | refine WL_nil ?_ | refine Then_normal ?_ | refine W_ret ?_))
  refine Body_vals (.cons (.tmp rfl) (.cons (.tmp rfl) (.cons (.tmp rfl) .nil))) rfl ?_
  exact UpdE.of (Upd.refl _ _) rfl
def headB (l : Bs) : Bool := decide (l.take 1 = [47])
def lastB (l : Bs) : Bool := decide (l.drop (l.length - 1) = [47])
theorem pre1_fn (h : PH) (l : Bs) : Does Try.prog 36 [.string (mkB l), .string ⟨#[47]⟩] [] h (Ret fun r _ _ => r = .bool (headB l)) := by
  have h1 : ((⟨#[47]⟩ : ByteArray).size : Int) = 1 := rfl
  have hsz := mkB_size l
  unfold headB
  refine Does_of_W Try.func36 rfl (n := 18) rfl rfl (by simp only [argE, Nat.reduceAdd] <;> rfl) ?_
  by_cases hz : l.length = 0
  · have hlt : ¬ ((mkB l).size : Int) ≥ ((⟨#[47]⟩ : ByteArray).size : Int) := by omega
    (repeat (first | refine W_seq ?_))
    skip
    refine W_region rfl ?_
    refine WL_is (X_assign rfl rfl) rfl rfl rfl ?_
    (repeat (first | refine WL_nil ?_ | refine Then_normal ?_ | refine W_seq ?_))
    skip
    refine W_region rfl ?_
    refine WL_is (X_move rfl rfl) rfl rfl rfl ?_
    refine WL_is (X_len_str rfl rfl rfl) rfl rfl rfl ?_
    refine WL_is (X_move rfl rfl) rfl rfl rfl ?_
    refine WL_is (X_len_str rfl rfl rfl) rfl rfl rfl ?_
    refine WL_is (X_geq_f rfl rfl rfl (by omega)) rfl rfl rfl ?_
    refine WL_is (X_move rfl rfl) rfl rfl rfl ?_
    refine WL_off rfl rfl rfl ?_
    refine WL_off rfl rfl rfl ?_
    refine WL_off rfl rfl rfl ?_
    refine WL_off rfl rfl rfl ?_
    refine WL_off rfl rfl rfl ?_
    refine WL_off rfl rfl rfl ?_
    refine WL_is (X_pick_f rfl rfl rfl) rfl rfl rfl ?_
    refine WL_is (X_assign rfl rfl) rfl rfl rfl ?_
    (repeat (first | refine WL_nil ?_ | refine Then_normal ?_ | refine W_ret ?_))
    refine Body_end rfl rfl rfl (SubR.none _) ?_
    have : l = [] := List.eq_nil_of_length_eq_zero hz
    subst this; rfl
  · have hlt : ((mkB l).size : Int) ≥ ((⟨#[47]⟩ : ByteArray).size : Int) := by omega
    have ht := mkB_take l 1
    have hb : ((mkB l).extract 0 (((⟨#[47]⟩ : ByteArray).size : Int)).toNat == (⟨#[47]⟩ : ByteArray)) = decide (l.take 1 = [47]) := by
      rw [show (((⟨#[47]⟩ : ByteArray).size : Int)).toNat = 1 from rfl, ht]
      exact mkB_beq (l.take 1) [47]
    (repeat (first | refine W_seq ?_))
    skip
    refine W_region rfl ?_
    refine WL_is (X_assign rfl rfl) rfl rfl rfl ?_
    (repeat (first | refine WL_nil ?_ | refine Then_normal ?_ | refine W_seq ?_))
    skip
    refine W_region rfl ?_
    refine WL_is (X_move rfl rfl) rfl rfl rfl ?_
    refine WL_is (X_len_str rfl rfl rfl) rfl rfl rfl ?_
    refine WL_is (X_move rfl rfl) rfl rfl rfl ?_
    refine WL_is (X_len_str rfl rfl rfl) rfl rfl rfl ?_
    refine WL_is (X_geq_t rfl rfl rfl (by omega)) rfl rfl rfl ?_
    refine WL_is (X_move rfl rfl) rfl rfl rfl ?_
    refine WL_is (X_move rfl rfl) rfl rfl rfl ?_
    refine WL_is (X_move rfl rfl) rfl rfl rfl ?_
    refine WL_is (X_len_str rfl rfl rfl) rfl rfl rfl ?_
    refine WL_is (X_sliceS_hi rfl rfl rfl rfl (by omega) (by omega)) rfl rfl rfl ?_
    refine WL_is (X_move rfl rfl) rfl rfl rfl ?_
    refine WL_is (X_eqS_c rfl rfl rfl (by assumption)) rfl rfl rfl ?_
    refine WL_is (X_pick_t rfl rfl rfl) rfl rfl rfl ?_
    refine WL_is (X_assign rfl rfl) rfl rfl rfl ?_
    (repeat (first | refine WL_nil ?_ | refine Then_normal ?_ | refine W_ret ?_))
    refine Body_end rfl rfl rfl (SubR.none _) ?_
    rfl
theorem suf1_fn (h : PH) (l : Bs) (hl : l.length ≤ 1000000) : Does Try.prog 37 [.string (mkB l), .string ⟨#[47]⟩] [] h (Ret fun r _ _ => r = .bool (lastB l)) := by
  have h1 : ((⟨#[47]⟩ : ByteArray).size : Int) = 1 := rfl
  have hsz := mkB_size l
  unfold lastB
  refine Does_of_W Try.func37 rfl (n := 21) rfl rfl (by simp only [argE, Nat.reduceAdd] <;> rfl) ?_
  by_cases hz : l.length = 0
  · have hlt : ¬ ((mkB l).size : Int) ≥ ((⟨#[47]⟩ : ByteArray).size : Int) := by omega
    (repeat (first | refine W_seq ?_))
    skip
    refine W_region rfl ?_
    refine WL_is (X_assign rfl rfl) rfl rfl rfl ?_
    (repeat (first | refine WL_nil ?_ | refine Then_normal ?_ | refine W_seq ?_))
    skip
    refine W_region rfl ?_
    refine WL_is (X_move rfl rfl) rfl rfl rfl ?_
    refine WL_is (X_len_str rfl rfl rfl) rfl rfl rfl ?_
    refine WL_is (X_move rfl rfl) rfl rfl rfl ?_
    refine WL_is (X_len_str rfl rfl rfl) rfl rfl rfl ?_
    refine WL_is (X_geq_f rfl rfl rfl (by omega)) rfl rfl rfl ?_
    refine WL_is (X_move rfl rfl) rfl rfl rfl ?_
    refine WL_off rfl rfl rfl ?_
    refine WL_off rfl rfl rfl ?_
    refine WL_off rfl rfl rfl ?_
    refine WL_off rfl rfl rfl ?_
    refine WL_off rfl rfl rfl ?_
    refine WL_off rfl rfl rfl ?_
    refine WL_off rfl rfl rfl ?_
    refine WL_off rfl rfl rfl ?_
    refine WL_off rfl rfl rfl ?_
    refine WL_is (X_pick_f rfl rfl rfl) rfl rfl rfl ?_
    refine WL_is (X_assign rfl rfl) rfl rfl rfl ?_
    (repeat (first | refine WL_nil ?_ | refine Then_normal ?_ | refine W_ret ?_))
    refine Body_end rfl rfl rfl (SubR.none _) ?_
    have : l = [] := List.eq_nil_of_length_eq_zero hz
    subst this; rfl
  · have hlt : ((mkB l).size : Int) ≥ ((⟨#[47]⟩ : ByteArray).size : Int) := by omega
    have ht := mkB_drop l (l.length - 1)
    have hb : ((mkB l).extract (((mkB l).size : Int) - ((⟨#[47]⟩ : ByteArray).size : Int)).toNat (mkB l).size == (⟨#[47]⟩ : ByteArray)) = decide (l.drop (l.length - 1) = [47]) := by
      rw [show (((mkB l).size : Int) - ((⟨#[47]⟩ : ByteArray).size : Int)).toNat = l.length - 1 from by omega, ht]
      exact mkB_beq (l.drop (l.length - 1)) [47]
    (repeat (first | refine W_seq ?_))
    skip
    refine W_region rfl ?_
    refine WL_is (X_assign rfl rfl) rfl rfl rfl ?_
    (repeat (first | refine WL_nil ?_ | refine Then_normal ?_ | refine W_seq ?_))
    skip
    refine W_region rfl ?_
    refine WL_is (X_move rfl rfl) rfl rfl rfl ?_
    refine WL_is (X_len_str rfl rfl rfl) rfl rfl rfl ?_
    refine WL_is (X_move rfl rfl) rfl rfl rfl ?_
    refine WL_is (X_len_str rfl rfl rfl) rfl rfl rfl ?_
    refine WL_is (X_geq_t rfl rfl rfl (by omega)) rfl rfl rfl ?_
    refine WL_is (X_move rfl rfl) rfl rfl rfl ?_
    refine WL_is (X_move rfl rfl) rfl rfl rfl ?_
    refine WL_is (X_move rfl rfl) rfl rfl rfl ?_
    refine WL_is (X_len_str rfl rfl rfl) rfl rfl rfl ?_
    refine WL_is (X_move rfl rfl) rfl rfl rfl ?_
    refine WL_is (X_len_str rfl rfl rfl) rfl rfl rfl ?_
    refine WL_is (X_subW rfl rfl rfl (by exact wrap_i64_in (by omega) (by omega))) rfl rfl rfl ?_
    refine WL_is (X_sliceS_lo rfl rfl rfl rfl (by omega) (by omega)) rfl rfl rfl ?_
    refine WL_is (X_move rfl rfl) rfl rfl rfl ?_
    refine WL_is (X_eqS_c rfl rfl rfl (by assumption)) rfl rfl rfl ?_
    refine WL_is (X_pick_t rfl rfl rfl) rfl rfl rfl ?_
    refine WL_is (X_assign rfl rfl) rfl rfl rfl ?_
    (repeat (first | refine WL_nil ?_ | refine Then_normal ?_ | refine W_ret ?_))
    refine Body_end rfl rfl rfl (SubR.none _) ?_
    rfl
theorem hasPre_fn (h : PH) (l : Bs) : Does Try.prog 25 [.string (mkB l), .string ⟨#[47]⟩] [] h (Ret fun r _ _ => r = .bool (headB l)) := by
  have hi := pre1_fn h l
  refine Does_of_W Try.func25 rfl (n := 8) rfl rfl (by simp only [argE, Nat.reduceAdd] <;> rfl) ?_
  (repeat (first | refine W_seq ?_))
  skip
  refine W_region rfl ?_
  refine WL_is (X_assign rfl rfl) rfl rfl rfl ?_
  (repeat (first | refine WL_nil ?_ | refine Then_normal ?_ | refine W_seq ?_))
  skip
  refine W_region rfl ?_
  refine WL_is (X_move rfl rfl) rfl rfl rfl ?_
  refine WL_is (X_move rfl rfl) rfl rfl rfl ?_
  refine WL_is (X_callv rfl rfl rfl Try.func36 rfl (by assumption)) rfl rfl rfl ?_
  refine WL_is (X_assign rfl rfl) rfl rfl rfl ?_
  (repeat (first | refine WL_nil ?_ | refine Then_normal ?_ | refine W_ret ?_))
  refine Body_end rfl rfl rfl (SubR.none _) ?_
  rfl
theorem hasSuf_fn (h : PH) (l : Bs) (hl : l.length ≤ 1000000) : Does Try.prog 26 [.string (mkB l), .string ⟨#[47]⟩] [] h (Ret fun r _ _ => r = .bool (lastB l)) := by
  have hi := suf1_fn h l hl
  refine Does_of_W Try.func26 rfl (n := 8) rfl rfl (by simp only [argE, Nat.reduceAdd] <;> rfl) ?_
  (repeat (first | refine W_seq ?_))
  skip
  refine W_region rfl ?_
  refine WL_is (X_assign rfl rfl) rfl rfl rfl ?_
  (repeat (first | refine WL_nil ?_ | refine Then_normal ?_ | refine W_seq ?_))
  skip
  refine W_region rfl ?_
  refine WL_is (X_move rfl rfl) rfl rfl rfl ?_
  refine WL_is (X_move rfl rfl) rfl rfl rfl ?_
  refine WL_is (X_callv rfl rfl rfl Try.func37 rfl (by assumption)) rfl rfl rfl ?_
  refine WL_is (X_assign rfl rfl) rfl rfl rfl ?_
  (repeat (first | refine WL_nil ?_ | refine Then_normal ?_ | refine W_ret ?_))
  refine Body_end rfl rfl rfl (SubR.none _) ?_
  rfl
end Go.Proofs.Ythcolbdlalpcjaa
