/- Directories: their slots, one behind the other. -/
import Derived.Test.YtgpanbmjmpondaaDirA
namespace Go.Proofs.Ytgpanbmjmpondaa
set_option maxRecDepth 4000
open Go Go.Par PH
def Dr.row (d : Dr) : Nat → List Chu
  | 0 => d.b0
  | 1 => d.b1
  | 2 => d.b2
  | _ => d.b3
def slo0 : Slo := ⟨0, 0, []⟩
def itemsS (k c : Nat) (x : Chu) (s : Nat) : List (Spo × Slo) := ((List.range 10).drop s).map fun (s : Nat) => (⟨(k : Int), (c : Int), (s : Int)⟩, x.sl[s]?.getD slo0)
def cellK (d : Dr) (k c : Nat) : List (Spo × Slo) := match (d.row k)[c]? with | some x => itemsS k c x 0 | none => []
def lineF (d : Dr) (c k : Nat) : List (Spo × Slo) := ((List.range 4).drop k).flatMap fun k => cellK d k c
def maxR (d : Dr) : Nat := max (max d.b0.length d.b1.length) (max d.b2.length d.b3.length)
def restF (d : Dr) (c : Nat) : List (Spo × Slo) := ((List.range (maxR d)).drop c).flatMap fun c => lineF d c 0
def slotsL (d : Dr) : List (Spo × Slo) := restF d 0
theorem row_le (d : Dr) (k : Nat) : (d.row k).length ≤ maxR d := by
  unfold maxR
  match k with
  | 0 => simp only [Dr.row]; omega
  | 1 => simp only [Dr.row]; omega
  | 2 => simp only [Dr.row]; omega
  | k + 3 => simp only [Dr.row]; omega
theorem itemsS_step (k c : Nat) (x : Chu) {s : Nat} (hs : s < 10) : itemsS k c x s = (⟨(k : Int), (c : Int), (s : Int)⟩, x.sl[s]?.getD slo0) :: itemsS k c x (s + 1) := by
  unfold itemsS
  rw [List.drop_eq_getElem_cons (by simpa using hs)]
  simp
theorem itemsS_end (k c : Nat) (x : Chu) : itemsS k c x 10 = [] := rfl
theorem lineF_step (d : Dr) (c : Nat) {k : Nat} (hk : k < 4) : lineF d c k = cellK d k c ++ lineF d c (k + 1) := by
  unfold lineF
  rw [List.drop_eq_getElem_cons (by simpa using hk)]
  simp
theorem lineF_end (d : Dr) (c : Nat) : lineF d c 4 = [] := rfl
theorem cellK_none {d : Dr} {k c : Nat} (h : (d.row k).length ≤ c) : cellK d k c = [] := by
  unfold cellK
  rw [List.getElem?_eq_none h]
theorem cellK_some {d : Dr} {k c : Nat} (h : c < (d.row k).length) : cellK d k c = itemsS k c (d.row k)[c] 0 := by
  unfold cellK
  rw [List.getElem?_eq_getElem h]
theorem restF_step (d : Dr) (c : Nat) : restF d c = lineF d c 0 ++ restF d (c + 1) := by
  unfold restF
  by_cases h : c < maxR d
  · rw [List.drop_eq_getElem_cons (by simpa using h)]
    simp
  · have h1 : lineF d c 0 = [] := by
      have hc : ∀ k, cellK d k c = [] := fun k => cellK_none (by have := row_le d k; omega)
      unfold lineF
      simp [hc]
    rw [h1, List.drop_eq_nil_of_le (by simp; omega), List.drop_eq_nil_of_le (by simp; omega)]
    rfl
theorem restF_end {d : Dr} {c : Nat} (h : maxR d ≤ c) : restF d c = [] := by
  unfold restF
  rw [List.drop_eq_nil_of_le (by simpa using h)]; rfl
/-- Some bucket's row is longer. -/
def moreB (d : Dr) (c k : Nat) : Bool := ((List.range 4).take k).any fun k => decide (c < (d.row k).length)
theorem moreB_succ (d : Dr) (c : Nat) {k : Nat} (hk : k < 4) : moreB d c (k + 1) = (moreB d c k || decide (c < (d.row k).length)) := by
  unfold moreB
  rw [List.take_add_one, List.getElem?_eq_getElem (by simpa using hk), List.any_append]
  simp
theorem moreB_no {d : Dr} {c : Nat} (h : moreB d c 4 = false) : maxR d ≤ c := by
  simp only [moreB, show (List.range 4).take 4 = [0, 1, 2, 3] from rfl, List.any_cons, List.any_nil, Bool.or_false, Bool.or_eq_false_iff, decide_eq_false_iff_not, Dr.row] at h
  unfold maxR
  omega
theorem moreB_yes {d : Dr} {c : Nat} (h : moreB d c 4 = true) : c + 1 ≤ maxR d := by
  rcases Nat.lt_or_ge c (maxR d) with hh | hh
  · exact hh
  · exfalso
    have : moreB d c 4 = false := by
      simp only [moreB, show (List.range 4).take 4 = [0, 1, 2, 3] from rfl, List.any_cons, List.any_nil, Bool.or_false, Bool.or_eq_false_iff, decide_eq_false_iff_not]
      have h0 := row_le d 0
      have h1 := row_le d 1
      have h2 := row_le d 2
      have h3 := row_le d 3
      omega
    rw [this] at h; cases h
theorem chu_ten {x : Chu} (h : (encChu x).length = 31) : ∃ s0 s1 s2 s3 s4 s5 s6 s7 s8 s9, x.sl = [s0, s1, s2, s3, s4, s5, s6, s7, s8, s9] := by
  have h2 : (x.sl.flatMap encSlo).length = x.sl.length * 3 := flat_len x.sl (fun _ _ => rfl)
  have h3 : x.sl.length = 10 := by
    unfold encChu at h
    rw [List.length_cons, h2] at h
    omega
  match hh : x.sl, h3 with
  | [s0, s1, s2, s3, s4, s5, s6, s7, s8, s9], _ => exact ⟨s0, s1, s2, s3, s4, s5, s6, s7, s8, s9, rfl⟩
theorem take3 : ∀ (sl : List Slo) (s : Nat) (hs : s < sl.length), ((sl.flatMap encSlo).drop (s * 3)).take 3 = encSlo sl[s]
  | [], s, hs => by simp at hs
  | x :: sl, 0, hs => by simp [encSlo]
  | x :: sl, s + 1, hs => by
    have ih := take3 sl s (by simpa using hs)
    simp only [List.flatMap_cons, List.getElem_cons_succ]
    rw [← ih, show (s + 1) * 3 = (encSlo x).length + s * 3 from by simp [encSlo]; omega, ← List.drop_drop, List.drop_left]
end Go.Proofs.Ytgpanbmjmpondaa
