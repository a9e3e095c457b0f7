/- Locks: who is freed again and again (plain). -/
import Derived.Test.YtgbcdjofkfdgnaaLockJ
namespace Go.Proofs.Ytgbcdjofkfdgnaa
def inQ (qs : List (List Int)) (p : Int) : Bool := qs.any fun q => decide (p ∈ q)
def cntQ (qs : List (List Int)) : Nat → Nat
  | 0 => 0
  | n + 1 => cntQ qs n + (if inQ qs n then 1 else 0)
theorem cntQ_le (qs : List (List Int)) : ∀ n, cntQ qs n ≤ n
  | 0 => Nat.le_refl _
  | n + 1 => by
    have := cntQ_le qs n
    rw [cntQ]; split <;> omega
theorem inQ_iff {qs : List (List Int)} {p : Int} : inQ qs p = true ↔ ∃ q ∈ qs, p ∈ q := by
  unfold inQ; simp
theorem inQ_free {qs : List (List Int)} {p x : Int} : inQ (qs.map (keep · p)) x = true ↔ inQ qs x = true ∧ x ≠ p := by
  rw [inQ_iff, inQ_iff]
  constructor
  · rintro ⟨q, hq, hx⟩
    obtain ⟨r, hr, rfl⟩ := List.mem_map.1 hq
    have := List.mem_filter.1 hx
    exact ⟨⟨r, hr, this.1⟩, by simpa using this.2⟩
  · rintro ⟨⟨q, hq, hx⟩, hne⟩
    exact ⟨keep q p, List.mem_map.2 ⟨q, hq, rfl⟩, List.mem_filter.2 ⟨hx, by simpa using hne⟩⟩
theorem cntQ_free {qs : List (List Int)} {j : Nat} (hj : inQ qs j = true) : ∀ n, cntQ (qs.map (keep · (j : Int))) n + (if j < n then 1 else 0) = cntQ qs n
  | 0 => by simp [cntQ]
  | n + 1 => by
    have ih := cntQ_free hj n
    rw [cntQ, cntQ]
    by_cases hn : n = j
    · subst hn
      have h1 : ¬ inQ (qs.map (keep · (n : Int))) n = true := fun h => (inQ_free.1 h).2 rfl
      rw [if_neg h1, if_pos hj, if_pos (by omega)]
      rw [if_neg (by omega)] at ih
      omega
    · have h1 : inQ (qs.map (keep · (j : Int))) n = inQ qs n := by
        cases hq : inQ qs n with
        | true => exact inQ_free.2 ⟨hq, by omega⟩
        | false =>
          cases hq2 : inQ (qs.map (keep · (j : Int))) n with
          | false => rfl
          | true => rw [(inQ_free.1 hq2).1] at hq; cases hq
      rw [h1]
      have h2 : (if j < n + 1 then 1 else 0) = (if j < n then 1 else 0) := by
        by_cases h : j < n
        · rw [if_pos h, if_pos (by omega)]
        · rw [if_neg h, if_neg (by omega)]
      rw [h2]; omega
/-- The one who is freed. -/
def lastGo (qs : List (List Int)) : Nat → Int
  | 0 => -1
  | p + 1 => if goes qs p then (p : Int) else lastGo qs p
theorem lastGo_pos {qs : List (List Int)} : ∀ {n : Nat}, 0 ≤ lastGo qs n → ∃ j : Nat, j < n ∧ lastGo qs n = j ∧ goes qs j = true
  | 0, h => by simp [lastGo] at h
  | n + 1, h => by
    rw [lastGo] at h ⊢
    by_cases hg : goes qs n = true
    · rw [if_pos hg]; exact ⟨n, by omega, rfl, hg⟩
    · rw [if_neg hg] at h ⊢
      obtain ⟨j, h1, h2, h3⟩ := lastGo_pos h
      exact ⟨j, by omega, h2, h3⟩
theorem lastGo_neg {qs : List (List Int)} : ∀ {n : Nat}, lastGo qs n < 0 → ∀ j : Nat, j < n → goes qs j = false
  | 0, _, j, hj => by omega
  | n + 1, h, j, hj => by
    rw [lastGo] at h
    by_cases hg : goes qs n = true
    · rw [if_pos hg] at h; omega
    · rw [if_neg hg] at h
      by_cases e : j = n
      · subst e; simpa using hg
      · exact lastGo_neg h j (by omega)
theorem goB_true {qs : List (List Int)} : ∀ {n : Nat}, goB qs n = true → ∃ j : Nat, j < n ∧ goes qs j = true
  | 0, h => by simp [goB] at h
  | n + 1, h => by
    simp only [goB, Bool.or_eq_true] at h
    rcases h with h | h
    · obtain ⟨j, h1, h2⟩ := goB_true h
      exact ⟨j, by omega, h2⟩
    · exact ⟨n, by omega, h⟩
theorem soB_of {qs : List (List Int)} : ∀ {n j : Nat}, j < n → wB qs j = true → soB qs n = true
  | 0, _, h, _ => by omega
  | n + 1, j, h, hg => by
    simp only [soB, Bool.or_eq_true]
    by_cases hj : j < n
    · exact .inl (soB_of hj hg)
    · have : j = n := by omega
      subst this; exact .inr hg
theorem all_empty {qs : List (List Int)} (H : PInv8 qs) (h : ∀ j : Nat, j < 8 → goes qs j = false) (k : Nat) (hk : k < qs.length) : qs[k] = [] := by
  have hng : goB qs 8 ≠ true := fun hg => by
    obtain ⟨j, h1, h2⟩ := goB_true hg
    rw [h j h1] at h2; cases h2
  cases hq : qs[k] with
  | nil => rfl
  | cons x q =>
    exfalso
    have hh : qs[k].head? = some x := by rw [hq]; rfl
    have hr := H.r _ (List.getElem_mem hk) x (by rw [hq]; simp)
    obtain ⟨n, rfl⟩ : ∃ n : Nat, x = (n : Int) := ⟨x.toNat, by omega⟩
    cases hw : wB qs n with
    | true => exact hng (moves_plain H (soB_of (j := n) (by omega) hw))
    | false =>
      have := goes_of hk hh hw
      rw [h n (by omega)] at this; cases this
/-- What is told of a lock behind a round's first part. -/
def stepG (q g : List Int) : List Int := match q with
  | [] => g
  | x :: _ => if g.getLast? = some x then g else g ++ [x]
structure EI (o q g : List Int) (k : Nat) : Prop where
  le : k ≤ o.length
  q : q = o.drop k
  g : g = o.take k ∨ g = o.take (k + 1)
theorem EI.step {o q g : List Int} {k : Nat} (hn : o.Nodup) (H : EI o q g k) : stepG q g = o.take (k + 1) := by
  obtain ⟨hk, rfl, hg⟩ := H
  rcases Nat.lt_or_ge k o.length with h | h
  · rw [List.drop_eq_getElem_cons h]
    unfold stepG
    dsimp only
    have hs : o.take (k + 1) = o.take k ++ [o[k]] := List.take_succ_eq_append_getElem h
    rcases hg with rfl | rfl
    · rw [if_neg, hs]
      intro e
      have hm := List.mem_of_getLast? e
      obtain ⟨i, hi, hx⟩ := List.getElem_of_mem hm
      rw [List.getElem_take] at hx
      simp only [List.length_take] at hi
      have := nodup_inj hn (by omega) h hx
      omega
    · rw [if_pos]
      rw [hs, List.getLast?_append]; simp
  · have e : k = o.length := by omega
    subst e
    rw [List.drop_length]
    unfold stepG
    dsimp only
    rcases hg with rfl | rfl
    · rw [List.take_length, List.take_of_length_le (by omega)]
    · rfl
theorem EI.free {o q : List Int} {k : Nat} (hn : o.Nodup) {p : Int} (hk : k ≤ o.length) (hq : q = o.drop k) (ht : p ∉ q.tail) : ∃ k', EI o (keep q p) (o.take (k + 1)) k' := by
  subst hq
  rcases Nat.lt_or_ge k o.length with h | h
  · rw [List.drop_eq_getElem_cons h] at ht ⊢
    simp only [List.tail_cons] at ht
    have hkt : keep (o.drop (k + 1)) p = o.drop (k + 1) := by
      unfold keep
      rw [List.filter_eq_self]
      intro x hx
      have : x ≠ p := fun e => ht (e ▸ hx)
      simp [this]
    by_cases e : o[k] = p
    · refine ⟨k + 1, by omega, ?_, .inl rfl⟩
      unfold keep
      rw [List.filter_cons, if_neg (by simp [e])]
      exact hkt
    · refine ⟨k, by omega, ?_, .inr rfl⟩
      unfold keep
      rw [List.filter_cons, if_pos (by simp [e]), List.drop_eq_getElem_cons h]
      congr 1
  · refine ⟨k, hk, ?_, .inr rfl⟩
    rw [List.drop_eq_nil_of_le h]; rfl
theorem no_tail {qs : List (List Int)} {p : Int} (h : goes qs p = true) {k : Nat} (hk : k < qs.length) : p ∉ qs[k].tail := fun ht => by
  have := wB_of hk ht
  unfold goes at h
  rw [this] at h; simp at h
theorem goes_in {qs : List (List Int)} {p : Int} (h : goes qs p = true) : inQ qs p = true := by
  unfold goes at h
  simp only [Bool.and_eq_true, decide_eq_true_eq] at h
  obtain ⟨k, h1, _, h3⟩ := holds_at h.2
  rw [List.getElem?_eq_getElem h1] at h3
  have := head_is.1 h3
  exact inQ_iff.2 ⟨_, List.getElem_mem h1, List.mem_of_head? this⟩
end Go.Proofs.Ytgbcdjofkfdgnaa
