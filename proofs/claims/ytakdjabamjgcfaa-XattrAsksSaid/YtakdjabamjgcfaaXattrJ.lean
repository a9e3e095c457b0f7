/- Values under keys: the laws, with no program in sight. -/
import Derived.Test.YtakdjabamjgcfaaXattrI
namespace Go.Proofs.Ytakdjabamjgcfaa
set_option maxRecDepth 4000
open Go Go.Par PH
theorem valB_iff {x : ByteArray × ByteArray} : valB x = true ↔ keyE x.1 = 0 ∧ x.2.size ≤ 16 := by
  unfold valB keyB keyE
  by_cases h0 : has0 x.1 = true
  · simp [h0]
  · by_cases h1 : x.1.size = 0
    · simp [h1]
    · by_cases h8 : 8 < x.1.size
      · simp [h0, h1, h8]; omega
      · simp [h0, h1, h8]; omega
theorem srt_at : ∀ {l : Xs}, (∀ i (_ : i + 1 < l.length), ltK (l[i]'(by omega)).1 l[i + 1].1 = true) → srt l
  | [], _ => trivial
  | [_], _ => ⟨(fun _ h => by cases h), trivial⟩
  | x :: y :: l, h => by
    have ih : srt (y :: l) := srt_at fun i hi => by have := h (i + 1) (by simp at hi ⊢; omega); simpa using this
    have h0 : ltK x.1 y.1 = true := by have := h 0 (by simp); simpa using this
    refine ⟨fun z hz => ?_, ih⟩
    rcases List.mem_cons.1 hz with e | hz
    · rw [e]; exact h0
    · exact ltK_trans h0 (ih.1 z hz)
theorem at_srt : ∀ {l : Xs}, srt l → ∀ i (_ : i + 1 < l.length), ltK (l[i]'(by omega)).1 l[i + 1].1 = true
  | [], _, i, hi => by simp at hi
  | x :: l, hs, 0, hi => by
    have : l[0]'(by simpa using hi) ∈ l := List.getElem_mem _
    simpa using hs.1 _ this
  | x :: l, hs, i + 1, hi => by
    have := at_srt hs.2 i (by simpa using hi)
    simpa using this
theorem mayX_iff {l : Xs} : mayX l = true ↔ l.length ≤ 4 ∧ (∀ x ∈ l, valB x = true) ∧ srt l := by
  constructor
  · intro h
    have hs := srt_of_may h
    simp only [mayX, Bool.and_eq_true, decide_eq_true_eq] at h
    refine ⟨h.1, fun x hx => ?_, hs⟩
    obtain ⟨i, hi, rfl⟩ := List.getElem_of_mem hx
    have := allB_iff.1 h.2 i hi
    rw [goodX_at hi, Bool.and_eq_true] at this
    exact this.1
  · rintro ⟨h1, h2, h3⟩
    simp only [mayX, Bool.and_eq_true, decide_eq_true_eq]
    refine ⟨h1, allB_iff.2 fun i hi => ?_⟩
    rw [goodX_at hi, Bool.and_eq_true]
    refine ⟨h2 _ (List.getElem_mem _), ?_⟩
    cases i with
    | zero => rfl
    | succ i =>
      have := at_srt h3 i hi
      simp only [Nat.add_sub_cancel, strGe_lt, this]
      simp
theorem insX_mem {l : Xs} {k z : ByteArray} {y : ByteArray × ByteArray} (h : y ∈ insX l k z) : y = (k, z) ∨ y ∈ l := by
  induction l with
  | nil => simp only [insX, List.mem_singleton] at h; exact .inl h
  | cons x l ih =>
    simp only [insX] at h
    split at h
    · rcases List.mem_cons.1 h with e | h
      · exact .inr (by simp [e])
      · rcases ih h with e | e
        · exact .inl e
        · exact .inr (by simp [e])
    · split at h
      · rcases List.mem_cons.1 h with e | h
        · exact .inl e
        · exact .inr (by simp [h])
      · rcases List.mem_cons.1 h with e | h
        · exact .inl e
        · exact .inr h
theorem insX_srt {l : Xs} {k z : ByteArray} (hs : srt l) : srt (insX l k z) := by
  induction l with
  | nil => exact ⟨(fun _ h => by cases h), trivial⟩
  | cons x l ih =>
    by_cases h : ltK x.1 k = true
    · rw [insX_t h]
      refine ⟨fun y hy => ?_, ih hs.2⟩
      rcases insX_mem hy with e | e
      · rw [e]; exact h
      · exact hs.1 y e
    · by_cases e : x.1 = k
      · rw [insX_e e]
        exact ⟨fun y hy => by rw [← e]; exact hs.1 y hy, hs.2⟩
      · rw [insX_f h e]
        have hk : ltK k x.1 = true := by
          cases hk : ltK k x.1 with
          | true => rfl
          | false => exact absurd (ltK_eq (by simpa using h) hk) e
        refine ⟨fun y hy => ?_, hs⟩
        rcases List.mem_cons.1 hy with e2 | e2
        · rw [e2]; exact hk
        · exact ltK_trans hk (hs.1 y e2)
theorem insX_len (l : Xs) (k z : ByteArray) (hs : srt l) : (insX l k z).length = l.length + (if isX l k = true then 0 else 1) := by
  rw [insX_cut l k z hs]
  have := lbX_le l k
  simp only [List.length_append, List.length_take, List.length_cons, List.length_drop]
  cases hx : isX l k with
  | true =>
    obtain ⟨hi, -⟩ := at_X hs hx
    simp only [if_pos]; omega
  | false => simp only [Bool.false_eq_true, if_false]; omega
theorem isX_ins {l : Xs} {k z o : ByteArray} : isX (insX l k z) o = (isX l o || decide (k = o)) := by
  induction l with
  | nil => simp [insX, isX]
  | cons x l ih =>
    by_cases h : ltK x.1 k = true
    · rw [insX_t h]
      unfold isX at ih ⊢
      rw [List.any_cons, ih, List.any_cons, Bool.or_assoc]
    · by_cases e : x.1 = k
      · rw [insX_e e]
        unfold isX
        simp only [List.any_cons, e]
        cases decide (k = o) <;> simp
      · rw [insX_f h e]
        unfold isX
        simp only [List.any_cons]
        cases decide (k = o) <;> simp
theorem getX_ins {l : Xs} {k z o : ByteArray} : getX (insX l k z) o = if k = o then some z else getX l o := by
  induction l with
  | nil => simp [insX, getX]
  | cons x l ih =>
    by_cases h : ltK x.1 k = true
    · have hne : ¬ x.1 = k := fun e => by rw [e, ltK_irrefl] at h; cases h
      rw [insX_t h]
      simp only [getX, ih]
      by_cases e : x.1 = o
      · rw [if_pos e, if_pos e, if_neg (fun e2 => hne (e.trans e2.symm))]
      · rw [if_neg e, if_neg e]
    · by_cases e : x.1 = k
      · rw [insX_e e]
        simp only [getX, e]
        by_cases e2 : k = o <;> simp [e2]
      · rw [insX_f h e]
        simp only [getX]
theorem getX_del {l : Xs} {k o : ByteArray} (hne : ¬ k = o) : getX (delX l k) o = getX l o := by
  induction l with
  | nil => rfl
  | cons x l ih =>
    by_cases e : x.1 = k
    · simp only [delX, if_pos e, getX, if_neg (fun e2 => hne (e.symm.trans e2))]
    · simp only [delX, if_neg e, getX, ih]
theorem isX_del {l : Xs} {k o : ByteArray} (hne : ¬ k = o) : isX (delX l k) o = isX l o := by
  induction l with
  | nil => rfl
  | cons x l ih =>
    by_cases e : x.1 = k
    · simp only [delX, if_pos e, isX, List.any_cons, decide_eq_false (fun e2 => hne (e.symm.trans e2)), Bool.false_or]
    · simp only [delX, if_neg e]
      unfold isX at ih ⊢
      rw [List.any_cons, List.any_cons, ih]
theorem delX_mem {l : Xs} {k : ByteArray} {y : ByteArray × ByteArray} (h : y ∈ delX l k) : y ∈ l := by
  induction l with
  | nil => exact h
  | cons x l ih =>
    simp only [delX] at h
    split at h
    · simp [h]
    · rcases List.mem_cons.1 h with e | h
      · simp [e]
      · simp [ih h]
theorem delX_srt {l : Xs} {k : ByteArray} (hs : srt l) : srt (delX l k) := by
  induction l with
  | nil => trivial
  | cons x l ih =>
    simp only [delX]
    split
    · exact hs.2
    · exact ⟨fun y hy => hs.1 y (delX_mem hy), ih hs.2⟩
theorem delX_le (l : Xs) (k : ByteArray) : (delX l k).length ≤ l.length := by
  induction l with
  | nil => exact Nat.le_refl _
  | cons x l ih => simp only [delX]; split <;> simp; omega
theorem del_ins {l : Xs} {k z : ByteArray} (hx : isX l k = false) : delX (insX l k z) k = l := by
  induction l with
  | nil => simp [insX, delX]
  | cons x l ih =>
    have hne : ¬ x.1 = k := by
      simp only [isX, List.any_cons, Bool.or_eq_false_iff, decide_eq_false_iff_not] at hx; exact hx.1
    have hx2 : isX l k = false := by
      simp only [isX, List.any_cons, Bool.or_eq_false_iff] at hx; exact hx.2
    by_cases h : ltK x.1 k = true
    · rw [insX_t h]; simp only [delX, if_neg hne, ih hx2]
    · rw [insX_f h hne]; simp [delX]
theorem ins_ins {l : Xs} {a b v w : ByteArray} (hab : ¬ a = b) : insX (insX l a v) b w = insX (insX l b w) a v := by
  have tri : ltK a b = true ∨ ltK b a = true := by
    cases h1 : ltK a b with
    | true => exact .inl rfl
    | false =>
      cases h2 : ltK b a with
      | true => exact .inr rfl
      | false => exact absurd (ltK_eq h1 h2) hab
  have hba : ¬ b = a := fun e => hab e.symm
  induction l with
  | nil =>
    rcases tri with h | h
    · have h2 : ¬ ltK b a = true := by rw [ltK_asymm h]; decide
      simp only [insX, if_pos h, if_neg h2, if_neg hba]
    · have h2 : ¬ ltK a b = true := by rw [ltK_asymm h]; decide
      simp only [insX, if_pos h, if_neg h2, if_neg hab]
  | cons x l ih =>
    by_cases ha : ltK x.1 a = true
    · by_cases hb : ltK x.1 b = true
      · rw [insX_t ha, insX_t hb, insX_t hb, insX_t ha, ih]
      · by_cases eb : x.1 = b
        · have h2 : ltK b a = true := by rw [← eb]; exact ha
          rw [insX_t ha, insX_e eb, insX_e eb, insX_t (x := (b, w)) h2]
        · have h1 : ltK b a = true := by
            rcases tri with h | h
            · exact absurd (ltK_trans ha h) hb
            · exact h
          rw [insX_t ha, insX_f hb eb, insX_f hb eb, insX_t (x := (b, w)) h1, insX_t ha]
    · by_cases ea : x.1 = a
      · by_cases hb : ltK x.1 b = true
        · have h2 : ltK a b = true := by rw [← ea]; exact hb
          rw [insX_e ea, insX_t hb, insX_t (x := (a, v)) h2, insX_e ea]
        · have eb : ¬ x.1 = b := fun e => hab (ea.symm.trans e)
          have h1 : ¬ ltK a b = true := by rw [← ea]; exact hb
          have h2 : ltK b a = true := tri.resolve_left h1
          rw [insX_e ea, insX_f hb eb, insX_f (x := (a, v)) h1 hab, insX_t (x := (b, w)) h2, insX_e ea]
      · by_cases hb : ltK x.1 b = true
        · have h1 : ltK a b = true := by
            rcases tri with h | h
            · exact h
            · exact absurd (ltK_trans hb h) ha
          rw [insX_f ha ea, insX_t hb, insX_t (x := (a, v)) h1, insX_t hb, insX_f ha ea]
        · by_cases eb : x.1 = b
          · have h1 : ¬ ltK b a = true := by rw [← eb]; exact ha
            have h2 : ltK a b = true := tri.resolve_right h1
            rw [insX_f ha ea, insX_e eb, insX_t (x := (a, v)) h2, insX_e eb, insX_f (x := (b, w)) h1 hba]
          · rcases tri with h | h
            · have h2 : ¬ ltK b a = true := by rw [ltK_asymm h]; decide
              rw [insX_f ha ea, insX_f hb eb, insX_t (x := (a, v)) h, insX_f hb eb, insX_f (x := (b, w)) h2 hba]
            · have h2 : ¬ ltK a b = true := by rw [ltK_asymm h]; decide
              rw [insX_f ha ea, insX_f hb eb, insX_f (x := (a, v)) h2 hab, insX_t (x := (b, w)) h, insX_f ha ea]
end Go.Proofs.Ytakdjabamjgcfaa
