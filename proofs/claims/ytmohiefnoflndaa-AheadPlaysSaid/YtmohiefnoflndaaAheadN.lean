/- Words ahead: lists that rise (plain). -/
import Derived.Test.YtmohiefnoflndaaAheadK
namespace Go.Proofs.Ytmohiefnoflndaa
set_option maxRecDepth 4000
open Go Go.Par PH
theorem mem_lk {A : List (Int × Int)} (h : (keysW A).Nodup) (x : Int × Int) : x ∈ A ↔ lkM A x.1 = some x.2 := by
  refine ⟨lk_mem h, fun hx => ?_⟩
  have h1 : x.1 ∈ keysW A := Decidable.byContradiction fun h' => by rw [lk_noneW.2 h'] at hx; cases hx
  obtain ⟨y, hy, he⟩ := keys_in.1 h1
  have h2 := lk_mem h hy
  rw [he, hx] at h2
  have : x = y := Prod.ext he.symm (Option.some.inj h2)
  rw [this]; exact hy
theorem nd_of_keys {A : List (Int × Int)} (h : (keysW A).Nodup) : A.Nodup := List.Pairwise.of_map (fun x : Int × Int => x.1) (fun a b h e => h (by rw [e])) h
theorem perm_of_lk {A B : List (Int × Int)} (h1 : (keysW A).Nodup) (h2 : (keysW B).Nodup) (h : ∀ k, lkM A k = lkM B k) : A.Perm B :=
  (List.perm_ext_iff_of_nodup (nd_of_keys h1) (nd_of_keys h2)).2 fun x => by rw [mem_lk h1, mem_lk h2, h]
theorem keys_sorted {L : List (Int × Int)} (h : sortedS L) : (keysW L).Nodup := by
  unfold keysW
  refine List.Pairwise.map (fun x : Int × Int => x.1) (R := fun a b : Int × Int => a.1 < b.1) (fun a b h e => ?_) h
  omega
def insR : List (Int × Int) → Int × Int → List (Int × Int)
  | [], x => [x]
  | y :: L, x => if y.1 < x.1 then y :: insR L x else if y.1 = x.1 then (y.1, x.2) :: L else x :: y :: L
theorem insR_at : ∀ (L : List (Int × Int)) (x : Int × Int) (i : Nat) (hi : i ≤ L.length) (_ : ∀ j (h : j < i), (L[j]'(by omega)).1 < x.1) (_ : ∀ h : i < L.length, ¬ L[i].1 < x.1),
    insR L x = if h : i < L.length then (if L[i].1 = x.1 then L.set i (L[i].1, x.2) else L.take i ++ [x] ++ L.drop i) else L ++ [x]
  | [], x, i, hi, _, _ => by
    have : i = 0 := by simpa using hi
    subst this; rfl
  | y :: L, x, 0, hi, h1, h2 => by
    have h3 : ¬ y.1 < x.1 := h2 (by simp)
    unfold insR
    rw [if_neg h3, dif_pos (by simp)]
    simp
  | y :: L, x, i + 1, hi, h1, h2 => by
    have h3 : y.1 < x.1 := h1 0 (by omega)
    have ih := insR_at L x i (by simpa using hi) (fun j hj => h1 (j + 1) (by omega)) (fun h => h2 (by simpa using h))
    unfold insR
    rw [if_pos h3, ih]
    by_cases h : i < L.length
    · rw [dif_pos h, dif_pos (by simpa using h)]
      simp only [List.getElem_cons_succ]
      split <;> simp
    · rw [dif_neg h, dif_neg (by simpa using h)]; rfl
theorem insR_keys : ∀ (L : List (Int × Int)) (x : Int × Int) (k : Int), k ∈ keysW (insR L x) ↔ k = x.1 ∨ k ∈ keysW L
  | [], x, k => by simp [insR, keysW]
  | y :: L, x, k => by
    have ih := insR_keys L x k
    unfold keysW at ih ⊢
    unfold insR
    split
    · rw [List.map_cons, List.mem_cons, ih, List.map_cons, List.mem_cons]
      constructor
      · rintro (h | h | h)
        · exact .inr (.inl h)
        · exact .inl h
        · exact .inr (.inr h)
      · rintro (h | h | h)
        · exact .inr (.inl h)
        · exact .inl h
        · exact .inr (.inr h)
    · split
      · rename_i h1 h2
        rw [List.map_cons, List.mem_cons, List.map_cons, List.mem_cons]
        constructor
        · rintro (h | h)
          · exact .inr (.inl h)
          · exact .inr (.inr h)
        · rintro (h | h | h)
          · exact .inl (h.trans h2.symm)
          · exact .inl h
          · exact .inr h
      · simp
theorem insR_sorted : ∀ {L : List (Int × Int)} (x : Int × Int), sortedS L → sortedS (insR L x)
  | [], x, _ => by simp [insR, sortedS]
  | y :: L, x, h => by
    obtain ⟨h1, h2⟩ := List.pairwise_cons.1 h
    unfold insR
    split
    · refine List.pairwise_cons.2 ⟨fun z hz => ?_, insR_sorted x h2⟩
      rcases (insR_keys L x z.1).1 (List.mem_map.2 ⟨z, hz, rfl⟩) with h3 | h3
      · omega
      · obtain ⟨q, hq, he⟩ := List.mem_map.1 h3
        have := h1 q hq
        omega
    · split
      · exact List.pairwise_cons.2 ⟨fun z hz => h1 z hz, h2⟩
      · refine List.pairwise_cons.2 ⟨fun z hz => ?_, h⟩
        rcases List.mem_cons.1 hz with h3 | h3
        · rw [h3]; omega
        · have := h1 z h3; omega
theorem insR_lk : ∀ {L : List (Int × Int)} (x : Int × Int) (_ : sortedS L) (k : Int), lkM (insR L x) k = if k = x.1 then some x.2 else lkM L k
  | [], x, _, k => by simp [insR, lkM]
  | y :: L, x, h, k => by
    obtain ⟨h1, h2⟩ := List.pairwise_cons.1 h
    have ih := insR_lk x h2 k
    unfold insR
    split
    · simp only [lkM, ih]
      by_cases e : k = y.1
      · rw [if_pos e, if_neg (by omega), if_pos e]
      · rw [if_neg e, if_neg e]
    · split
      · simp only [lkM]
        by_cases e : k = y.1
        · rw [if_pos e, if_pos (by omega)]
        · rw [if_neg e, if_neg (by omega), if_neg e]
      · simp only [lkM]
def outR (L : List (Int × Int)) (a : Int) : List (Int × Int) := L.filter fun x => !decide (x.1 = a)
theorem outR_lk : ∀ (L : List (Int × Int)) (a k : Int), lkM (outR L a) k = if k = a then none else lkM L k
  | [], a, k => by simp [outR, lkM]
  | y :: L, a, k => by
    have ih := outR_lk L a k
    unfold outR at ih ⊢
    by_cases h : y.1 = a
    · rw [List.filter_cons_of_neg (by simpa using h), ih]
      simp only [lkM]
      by_cases e : k = a
      · rw [if_pos e, if_pos e]
      · rw [if_neg e, if_neg e, if_neg (by omega)]
    · rw [List.filter_cons_of_pos (by simpa using h)]
      simp only [lkM, ih]
      by_cases e : k = y.1
      · rw [if_pos e, if_neg (by omega), if_pos e]
      · rw [if_neg e, if_neg e]
theorem outR_sorted {L : List (Int × Int)} (a : Int) (h : sortedS L) : sortedS (outR L a) := List.Pairwise.filter _ h
theorem outR_len (L : List (Int × Int)) (a : Int) : (outR L a).length = L.length ↔ lkM L a = none := by
  unfold outR
  rw [List.length_filter_eq_length_iff, lk_noneW, keys_in]
  constructor
  · rintro h ⟨x, hx, e⟩
    have := h x hx
    simp [e] at this
  · intro h x hx
    have : ¬ x.1 = a := fun e => h ⟨x, hx, e⟩
    simp [this]
theorem outR_same {L : List (Int × Int)} {a : Int} (h : lkM L a = none) : outR L a = L := by
  unfold outR
  rw [List.filter_eq_self]
  intro x hx
  have : ¬ x.1 = a := fun e => lk_noneW.1 h (keys_in.2 ⟨x, hx, e⟩)
  simp [this]
/-- The table and the list tell the same. -/
structure InvP (T L : List (Int × Int)) : Prop where
  nd : (keysW T).Nodup
  so : sortedS L
  lk : ∀ k, lkM T k = lkM L k
theorem InvP.perm {T L : List (Int × Int)} (v : InvP T L) : L.Perm T := perm_of_lk (keys_sorted v.so) v.nd fun k => (v.lk k).symm
theorem InvP.zero : InvP [] [] := ⟨.nil, .nil, fun _ => rfl⟩
theorem InvP.put {T L : List (Int × Int)} (v : InvP T L) (x : Int × Int) : InvP (upM T x.1 x.2) (insR L x) :=
  ⟨nd_upW _ _ v.nd, insR_sorted x v.so, fun k => by rw [lk_upW, insR_lk x v.so, v.lk]⟩
def insL (L l : List (Int × Int)) : List (Int × Int) := l.foldl insR L
theorem insL_succ (L l : List (Int × Int)) {j : Nat} (hj : j < l.length) : insL L (l.take (j + 1)) = insR (insL L (l.take j)) l[j] := by
  unfold insL
  rw [List.take_add_one, List.getElem?_eq_getElem hj, Option.toList_some, List.foldl_append]; rfl
theorem InvP.puts {T L : List (Int × Int)} (v : InvP T L) (l : List (Int × Int)) : InvP (putT T l) (insL L l) := by
  induction l generalizing T L with
  | nil => exact v
  | cons x l ih => exact ih (v.put x)
theorem InvP.done {T L : List (Int × Int)} (v : InvP T L) (a : Int) : InvP (if (lkM T a).isSome = true then delM T a else T) (outR L a) := by
  split
  · exact ⟨nd_delW _ v.nd, outR_sorted a v.so, fun k => by rw [lk_delW _ _ v.nd, outR_lk, v.lk]⟩
  · rename_i h
    have h1 : lkM L a = none := by rw [← v.lk]; simpa using h
    rw [outR_same h1]; exact v
theorem insR_len : ∀ (L : List (Int × Int)) (x : Int × Int), (insR L x).length ≤ L.length + 1
  | [], x => by simp [insR]
  | y :: L, x => by
    have ih := insR_len L x
    unfold insR
    split
    · simp only [List.length_cons]; omega
    · split <;> simp
theorem insL_len (L l : List (Int × Int)) : (insL L l).length ≤ L.length + l.length := by
  induction l generalizing L with
  | nil => exact Nat.le_refl _
  | cons x l ih =>
    have h1 : insL L (x :: l) = insL (insR L x) l := rfl
    have h2 := ih (insR L x)
    have h3 := insR_len L x
    rw [h1, List.length_cons]; omega
end Go.Proofs.Ytmohiefnoflndaa
