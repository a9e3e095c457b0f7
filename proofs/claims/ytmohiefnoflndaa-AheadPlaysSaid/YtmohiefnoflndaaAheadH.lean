/- Words ahead: tables and two rows of 64 (plain). -/
import Derived.Test.YtmohiefnoflndaaAheadG
namespace Go.Proofs.Ytmohiefnoflndaa
set_option maxRecDepth 4000
open Go Go.Par PH
section
variable {κ β : Type} [DecidableEq κ]
theorem lk_upW : ∀ (L : List (κ × β)) (k : κ) (v : β) (k' : κ), lkM (upM L k v) k' = if k' = k then some v else lkM L k'
  | [], k, v, k' => by simp [upM, lkM]
  | x :: L, k, v, k' => by
    by_cases h : k = x.1
    · simp only [upM, if_pos h, lkM]
      by_cases h2 : k' = k
      · simp [h2]
      · have h3 : ¬ k' = x.1 := fun e => h2 (e.trans h.symm)
        simp [h2, h3]
    · simp only [upM, if_neg h, lkM, lk_upW L k v k']
      by_cases h2 : k' = x.1
      · have h3 : ¬ k' = k := fun e => h (e.symm.trans h2)
        have h4 : ¬ x.1 = k := fun e => h e.symm
        simp [h2, h4]
      · simp [h2]
def keysW (L : List (κ × β)) : List κ := L.map fun x => x.1
theorem lk_noneW : ∀ {L : List (κ × β)} {k : κ}, lkM L k = none ↔ ¬ k ∈ keysW L
  | [], k => by simp [lkM, keysW]
  | x :: L, k => by
    have ih := lk_noneW (L := L) (k := k)
    unfold keysW at ih ⊢
    by_cases h : k = x.1
    · simp [lkM, h]
    · simp only [lkM, if_neg h, ih, List.map_cons, List.mem_cons, not_or]
      exact ⟨fun h' => ⟨h, h'⟩, fun h' => h'.2⟩
theorem len_upW : ∀ (L : List (κ × β)) (k : κ) (v : β), (upM L k v).length = L.length + if (lkM L k).isSome = true then 0 else 1
  | [], k, v => by simp [upM, lkM]
  | x :: L, k, v => by
    by_cases h : k = x.1
    · simp [upM, lkM, h]
    · simp only [upM, lkM, if_neg h, List.length_cons, len_upW L k v]; omega
theorem keys_upW : ∀ (L : List (κ × β)) (k : κ) (v : β) (x : κ), x ∈ keysW (upM L k v) ↔ x = k ∨ x ∈ keysW L
  | [], k, v, x => by simp [upM, keysW]
  | y :: L, k, v, x => by
    have ih := keys_upW L k v x
    unfold keysW at ih ⊢
    by_cases h : k = y.1
    · simp [upM, h]
    · simp only [upM, if_neg h, List.map_cons, List.mem_cons, ih]
      constructor
      · rintro (h | h | h)
        · exact .inr (.inl h)
        · exact .inl h
        · exact .inr (.inr h)
      · rintro (h | h | h)
        · exact .inr (.inl h)
        · exact .inl h
        · exact .inr (.inr h)
theorem nd_upW : ∀ {L : List (κ × β)} (k : κ) (v : β), (keysW L).Nodup → (keysW (upM L k v)).Nodup
  | [], k, v, _ => by simp [upM, keysW]
  | y :: L, k, v, h => by
    have h' : (y.1 :: keysW L).Nodup := h
    rw [List.nodup_cons] at h'
    by_cases hk : k = y.1
    · have e : keysW (upM (y :: L) k v) = y.1 :: keysW L := by simp [upM, keysW, hk]
      rw [e]; exact h
    · have e : keysW (upM (y :: L) k v) = y.1 :: keysW (upM L k v) := by simp [upM, keysW, hk]
      rw [e, List.nodup_cons]
      exact ⟨fun hm => by rcases (keys_upW L k v _).1 hm with h1 | h1; exact hk h1.symm; exact h'.1 h1, nd_upW k v h'.2⟩
theorem lk_delW : ∀ {L : List (κ × β)} (k k' : κ), (keysW L).Nodup → lkM (delM L k) k' = if k' = k then none else lkM L k'
  | [], k, k', _ => by simp [delM, lkM]
  | y :: L, k, k', h => by
    have h' : (y.1 :: keysW L).Nodup := h
    rw [List.nodup_cons] at h'
    by_cases hk : k = y.1
    · simp only [delM, if_pos hk, lkM]
      by_cases h2 : k' = k
      · rw [if_pos h2, lk_noneW, h2, hk]; exact h'.1
      · rw [if_neg h2, if_neg (fun e => h2 (e.trans hk.symm))]
    · simp only [delM, if_neg hk, lkM, lk_delW k k' h'.2]
      by_cases h2 : k' = y.1
      · have h3 : ¬ k' = k := fun e => hk (e.symm.trans h2)
        simp only [if_pos h2, if_neg h3]
      · simp only [if_neg h2]
theorem keys_delW : ∀ {L : List (κ × β)} {k x : κ}, x ∈ keysW (delM L k) → x ∈ keysW L
  | [], k, x, h => by simp [delM, keysW] at h
  | y :: L, k, x, h => by
    by_cases hk : k = y.1
    · simp only [delM, if_pos hk] at h; exact List.mem_cons_of_mem _ h
    · simp only [delM, if_neg hk] at h
      rcases List.mem_cons.1 h with h1 | h1
      · exact List.mem_cons.2 (.inl h1)
      · exact List.mem_cons_of_mem _ (keys_delW (L := L) h1)
theorem nd_delW : ∀ {L : List (κ × β)} (k : κ), (keysW L).Nodup → (keysW (delM L k)).Nodup
  | [], k, _ => by simp [delM, keysW]
  | y :: L, k, h => by
    have h' : (y.1 :: keysW L).Nodup := h
    rw [List.nodup_cons] at h'
    by_cases hk : k = y.1
    · simp only [delM, if_pos hk]; exact h'.2
    · simp only [delM, if_neg hk]
      exact List.nodup_cons.2 ⟨fun hm => h'.1 (keys_delW hm), nd_delW k h'.2⟩
theorem len_delW : ∀ {L : List (κ × β)} {k : κ}, (lkM L k).isSome = true → (delM L k).length + 1 = L.length
  | [], k, h => by simp [lkM] at h
  | y :: L, k, h => by
    by_cases hk : k = y.1
    · simp [delM, hk]
    · simp only [lkM, if_neg hk] at h
      simp only [delM, if_neg hk, List.length_cons]
      have := len_delW h; omega
end
/-- The table tells what two rows of 64 tell. -/
structure InvA (T : List (Int × Int)) (I : List Bool) (U : List Int) : Prop where
  nd : (keysW T).Nodup
  li : I.length = 64
  lu : U.length = 64
  lk : ∀ (k : Nat) (h : k < 64), lkM T (k : Int) = if I[k]'(by omega) = true then some (U[k]'(by omega)) else none
theorem InvA.zero : InvA [] (List.replicate 64 false) (List.replicate 64 0) := ⟨.nil, by simp, by simp, fun k h => by rw [List.getElem_replicate, if_neg (by simp)]; rfl⟩
theorem InvA.some_iff {T : List (Int × Int)} {I : List Bool} {U : List Int} (v : InvA T I U) {k : Nat} (h : k < 64) : (lkM T (k : Int)).isSome = I[k]'(by have := v.li; omega) := by
  rw [v.lk k h]; split <;> simp_all
theorem InvA.put {T : List (Int × Int)} {I : List Bool} {U : List Int} (v : InvA T I U) {a : Nat} (ha : a < 64) (w : Int) : InvA (upM T (a : Int) w) (I.set a true) (U.set a w) := by
  have h1 := v.li
  have h2 := v.lu
  refine ⟨nd_upW _ _ v.nd, by simp [h1], by simp [h2], fun k hk => ?_⟩
  rw [lk_upW, v.lk k hk]
  by_cases e : k = a
  · subst e; simp
  · rw [if_neg (by omega), List.getElem_set_ne (fun h => e h.symm), List.getElem_set_ne (fun h => e h.symm)]
theorem InvA.len {T : List (Int × Int)} {I : List Bool} {U : List Int} (v : InvA T I U) {a : Nat} (ha : a < 64) (w : Int) : (upM T (a : Int) w).length = T.length + if I[a]'(by have := v.li; omega) = true then 0 else 1 := by
  rw [len_upW, v.some_iff ha]
theorem InvA.del {T : List (Int × Int)} {I : List Bool} {U : List Int} (v : InvA T I U) {a : Nat} (ha : a < 64) : InvA (if (lkM T (a : Int)).isSome = true then delM T (a : Int) else T) (I.set a false) U := by
  have h1 := v.li
  have h2 := v.lu
  have h3 := v.some_iff ha
  split
  · refine ⟨nd_delW _ v.nd, by simp [h1], h2, fun k hk => ?_⟩
    rw [lk_delW _ _ v.nd, v.lk k hk]
    by_cases e : k = a
    · subst e; simp
    · rw [if_neg (by omega), List.getElem_set_ne (fun h => e h.symm)]
  · rename_i hn
    refine ⟨v.nd, by simp [h1], h2, fun k hk => ?_⟩
    rw [v.lk k hk]
    by_cases e : k = a
    · subst e
      have h4 : I[k]'(by omega) = false := by rw [← h3]; simpa using hn
      simp [h4]
    · rw [List.getElem_set_ne (fun h => e h.symm)]
def nm (x : Int) : Nat := ((x.tmod 64 + 64) % 64).toNat
theorem nm_eq (x : Int) : (x.tmod 64 + 64) % 64 = (nm x : Int) := by
  unfold nm; omega
theorem nm_lt (x : Int) : nm x < 64 := by
  unfold nm; omega
theorem nm_in (x : Int) : -64 < x.tmod 64 ∧ x.tmod 64 < 64 := ⟨Int.lt_tmod_of_pos x (by omega), Int.tmod_lt_of_pos x (by omega)⟩
def nmL (l : List (Int × Int)) : List (Int × Int) := l.map fun x => ((nm x.1 : Int), x.2)
theorem nmL_succ {l : List (Int × Int)} {j : Nat} (hj : j < l.length) : nmL (l.take (j + 1)) = nmL (l.take j) ++ [((nm l[j].1 : Int), l[j].2)] := by
  unfold nmL
  rw [List.take_add_one, List.getElem?_eq_getElem hj, Option.toList_some, List.map_append]; rfl
theorem nmL_neg (l : List (Int × Int)) : negL (nmL l) = false := by
  unfold negL nmL
  rw [List.any_eq_false]
  intro x hx
  obtain ⟨y, _, rfl⟩ := List.mem_map.1 hx
  simp
theorem putT_snoc (T l : List (Int × Int)) (x : Int × Int) : putT T (l ++ [x]) = upM (putT T l) x.1 x.2 := by
  unfold putT; rw [List.foldl_append]; rfl
end Go.Proofs.Ytmohiefnoflndaa
