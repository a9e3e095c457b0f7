/- Open files: how many of all that was opened are still open. -/
import Derived.Test.YtmicilnmphkpmaaDescL
namespace Go.Proofs.Ytmicilnmphkpmaa
open Go Go.Par PH
theorem mem_set_iff {l : List Nat} {i a x : Nat} (hi : i < l.length) : x ∈ l.set i a ↔ x = a ∨ ∃ j, ∃ hj : j < l.length, j ≠ i ∧ l[j] = x := by
  constructor
  · intro h
    obtain ⟨j, hj, e⟩ := List.getElem_of_mem h
    rw [List.getElem_set] at e
    by_cases hij : i = j
    · rw [if_pos hij] at e; exact .inl e.symm
    · rw [if_neg hij] at e; exact .inr ⟨j, by simpa using hj, fun h => hij h.symm, e⟩
  · rintro (rfl | ⟨j, hj, hij, rfl⟩)
    · exact List.mem_iff_getElem.2 ⟨i, by simpa using hi, by simp⟩
    · exact List.mem_iff_getElem.2 ⟨j, by simpa using hj, by rw [List.getElem_set_ne (Ne.symm hij)]⟩
def cnt (fds : List Nat) (n : Nat) : Nat := cntU (fun j => !decide (j + 1 ∈ fds)) n
theorem cnt_congr {fds fds' : List Nat} {n : Nat} (h : ∀ j, j < n → (j + 1 ∈ fds ↔ j + 1 ∈ fds')) : cnt fds n = cnt fds' n := cntU_congr fun j hj => by simp only [h j hj]
theorem cnt_open {fds : List Nat} {n m : Nat} (hm : m < fds.length) (h0 : fds[m] = 0) (hle : ∀ k ∈ fds, k ≤ n) : cnt (fds.set m (n + 1)) (n + 1) = cnt fds n + 1 := by
  have h1 : n + 1 ∈ fds.set m (n + 1) := (mem_set_iff hm).2 (.inl rfl)
  have e1 : cnt (fds.set m (n + 1)) (n + 1) = cnt (fds.set m (n + 1)) n + 1 := by
    unfold cnt
    simp only [cntU, h1, decide_true, Bool.not_true]
    simp
  rw [e1]
  congr 1
  refine cnt_congr fun j hj => ?_
  rw [mem_set_iff hm]
  constructor
  · rintro (h | ⟨i, hi, hne, e⟩)
    · omega
    · exact e ▸ List.getElem_mem hi
  · intro h
    obtain ⟨i, hi, e⟩ := List.getElem_of_mem h
    refine .inr ⟨i, hi, fun h2 => ?_, e⟩
    subst h2; omega
theorem cnt_dup {fds : List Nat} {n m k : Nat} (hm : m < fds.length) (h0 : fds[m] = 0) (hk : k ∈ fds) : cnt (fds.set m k) n = cnt fds n := by
  refine cnt_congr fun j hj => ?_
  rw [mem_set_iff hm]
  constructor
  · rintro (h | ⟨i, hi, hne, e⟩)
    · rw [h]; exact hk
    · exact e ▸ List.getElem_mem hi
  · intro h
    obtain ⟨i, hi, e⟩ := List.getElem_of_mem h
    refine .inr ⟨i, hi, fun h2 => ?_, e⟩
    subst h2; omega
theorem cnt_close {fds : List Nat} {n q : Nat} (hq : q < fds.length) (h0 : fds[q] ≠ 0) (hle : ∀ k ∈ fds, k ≤ n) :
    cnt fds n = cnt (fds.set q 0) n + (if fds[q] ∈ fds.set q 0 then 0 else 1) := by
  have hmem : ∀ j, j + 1 ∈ fds.set q 0 ↔ ∃ i, ∃ hi : i < fds.length, i ≠ q ∧ fds[i] = j + 1 := fun j => by
    rw [mem_set_iff hq]; simp
  by_cases hm : fds[q] ∈ fds.set q 0
  · rw [if_pos hm, Nat.add_zero]
    refine cnt_congr fun j hj => ?_
    constructor
    · intro h
      obtain ⟨i, hi, e⟩ := List.getElem_of_mem h
      by_cases hiq : i = q
      · subst hiq; rw [← e]; exact hm
      · exact (hmem j).2 ⟨i, hi, hiq, e⟩
    · intro h
      obtain ⟨i, hi, _, e⟩ := (hmem j).1 h
      exact e ▸ List.getElem_mem hi
  · rw [if_neg hm]
    obtain ⟨k, hk⟩ : ∃ k, fds[q] = k + 1 := ⟨fds[q] - 1, by omega⟩
    have hkn : k < n := by have := hle _ (List.getElem_mem hq); omega
    rw [hk] at hm
    unfold cnt
    have := cntU_set (l := fun j => !decide (j + 1 ∈ fds)) (i := k) (by simp; rw [← hk]; exact List.getElem_mem hq) hkn
    rw [← this]
    congr 1
    refine cntU_congr fun j hj => ?_
    by_cases hjk : j = k
    · subst hjk; simp [hm]
    · rw [if_neg hjk]
      congr 1
      rw [decide_eq_decide]
      constructor
      · intro h
        obtain ⟨i, hi, e⟩ := List.getElem_of_mem h
        exact (hmem j).2 ⟨i, hi, fun h2 => by subst h2; omega, e⟩
      · intro h
        obtain ⟨i, hi, _, e⟩ := (hmem j).1 h
        exact e ▸ List.getElem_mem hi
theorem cnt_none {fds : List Nat} (h : ∀ k ∈ fds, k = 0) : ∀ n, cnt fds n = 0
  | 0 => rfl
  | n + 1 => by
    have := cnt_none h n
    unfold cnt at this ⊢
    have hn : ¬ n + 1 ∈ fds := fun hm => by have := h _ hm; omega
    simp only [cntU, this, hn, decide_false, Bool.not_false, if_true]
theorem lst_none {fds : List Nat} (h : ∀ k ∈ fds, k = 0) : ∀ n, lst fds n = []
  | 0 => rfl
  | n + 1 => by
    rw [lst, lst_none h n]
    have : (fds[n]?).getD 0 = 0 := by
      cases hf : fds[n]? with
      | none => rfl
      | some k => simp [h k (List.mem_of_getElem? hf)]
    rw [if_pos this]; rfl
/-- What is kept from step to step. -/
structure SInv (s : DS) (F : List FileD) (la : Nat) : Prop where
  ok : s.Ok
  len : F.length = 301
  files : ∀ i (hi : i < s.all.length) (h' : i + 1 < F.length), F[i + 1] = s.all[i]
  cnt : la + cnt s.fds s.all.length = s.all.length
theorem SInv.open {s : DS} {F : List FileD} {la : Nat} (H : SInv s F la) (f : FileD) (hm : least s.fds < 8) (hn : s.all.length < 300) : SInv (s.open f) (F.set (s.all.length + 1) f) la := by
  have hml : least s.fds < s.fds.length := by rw [H.ok.len]; exact hm
  have hok := H.ok.open f
  have he : s.open f = ⟨s.all ++ [f], s.fds.set (least s.fds) (s.all.length + 1)⟩ := by unfold DS.open; rw [if_pos hm]
  refine ⟨hok, by simpa using H.len, ?_, ?_⟩
  · rw [he]
    intro i hi h'
    simp only [List.length_append, List.length_cons, List.length_nil] at hi
    rw [List.getElem_set]
    by_cases hc : s.all.length + 1 = i + 1
    · rw [if_pos hc]
      have : i = s.all.length := by omega
      subst this; simp
    · rw [if_neg hc, H.files i (by omega) (by simpa using h')]
      rw [List.getElem_append_left (by omega)]
  · rw [he]
    have := cnt_open hml (least_lt hml) H.ok.le
    simp only [List.length_append, List.length_cons, List.length_nil, Nat.zero_add]
    rw [this]
    have := H.cnt
    omega
theorem SInv.move {s : DS} {F : List FileD} {la : Nat} (H : SInv s F la) {q : Nat} {off : Int} (hq : q < s.fds.length) (h0 : s.fds[q] ≠ 0) (ho : ¬ off < 0) (hF : s.fds[q] < F.length) (hn : s.all.length ≤ 300) :
    s.move q off = ⟨s.all.set (s.fds[q] - 1) { F[s.fds[q]] with off := off }, s.fds⟩ ∧ SInv (s.move q off) (F.set s.fds[q] { F[s.fds[q]] with off := off }) la := by
  have ha : atF s.fds (q : Int) = s.fds[q] := by
    unfold atF
    have := H.ok.len
    rw [if_pos (by omega)]; simp [hq]
  obtain ⟨k, hk⟩ : ∃ k, s.fds[q] = k + 1 := ⟨s.fds[q] - 1, by omega⟩
  have hkn : k < s.all.length := by have := H.ok.le _ (List.getElem_mem hq); omega
  have hfi : s.file q = s.all[k] := by
    unfold DS.file
    rw [ha, if_neg h0, hk]; simp [hkn]
  have hFk : F[s.fds[q]] = s.all[k] := by
    have := H.files k hkn (by omega)
    simp only [hk]; exact this
  have he : s.move q off = ⟨s.all.set k { s.all[k] with off := off }, s.fds⟩ := by
    unfold DS.move
    rw [ha, if_neg (by omega), hk, hfi]; simp
  refine ⟨by rw [he, hFk]; simp [hk], ?_⟩
  refine ⟨H.ok.move _ _, by simpa using H.len, ?_, ?_⟩
  · rw [he, hFk]
    intro i hi h'
    simp only [List.length_set] at hi
    rw [List.getElem_set, List.getElem_set]
    by_cases hc : k = i
    · subst hc; rw [if_pos (by omega), if_pos rfl]
    · rw [if_neg (by omega), if_neg hc]; exact H.files i hi (by simpa using h')
  · rw [he]; simpa using H.cnt
end Go.Proofs.Ytmicilnmphkpmaa
