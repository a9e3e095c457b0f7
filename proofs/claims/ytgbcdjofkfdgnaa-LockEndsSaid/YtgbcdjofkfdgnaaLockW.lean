/- Locks: what is so of the queues, whatever is asked and freed (plain). -/
import Derived.Test.YtgbcdjofkfdgnaaLockV
namespace Go.Proofs.Ytgbcdjofkfdgnaa
structure PInv (qs : List (List Int)) : Prop where
  nd : ∀ q ∈ qs, q.Nodup
  one : ∀ p k1 k2 (h1 : k1 < qs.length) (h2 : k2 < qs.length), p ∈ qs[k1].tail → p ∈ qs[k2].tail → k1 = k2
  lt : ∀ p k1 k2 (h1 : k1 < qs.length) (h2 : k2 < qs.length), p ∈ qs[k1].tail → qs[k2].head? = some p → k2 < k1
theorem PInv.new : PInv (List.replicate 12 []) := by
  refine ⟨fun q hq => by rw [List.eq_of_mem_replicate hq]; simp, fun p k1 k2 h1 h2 h => ?_, fun p k1 k2 h1 h2 h => ?_⟩ <;> (rw [List.getElem_replicate] at h; simp at h)
theorem tail_keep {q : List Int} {p x : Int} (h : x ∈ (keep q p).tail) : x ∈ q.tail := by
  cases q with
  | nil => simp [keep] at h
  | cons y q =>
    simp only [List.tail_cons]
    unfold keep at h
    rw [List.filter_cons] at h
    split at h
    · simp only [List.tail_cons] at h; exact (List.mem_filter.1 h).1
    · exact (List.mem_filter.1 (List.mem_of_mem_tail h)).1
theorem head_keep {q : List Int} {p x : Int} (h : (keep q p).head? = some x) : q.head? = some x ∨ x ∈ q.tail := by
  have hm : x ∈ keep q p := List.mem_of_head? h
  have hm : x ∈ q := (List.mem_filter.1 hm).1
  cases q with
  | nil => simp at hm
  | cons y q =>
    simp only [List.mem_cons] at hm
    rcases hm with rfl | hm
    · exact .inl rfl
    · exact .inr hm
theorem head_tail {q : List Int} {x : Int} (hn : q.Nodup) (h1 : q.head? = some x) (h2 : x ∈ q.tail) : False := by
  cases q with
  | nil => simp at h1
  | cons y q =>
    simp only [List.head?_cons, Option.some.injEq] at h1
    subst h1
    simp only [List.tail_cons] at h2
    simp only [List.nodup_cons] at hn
    exact hn.1 h2
theorem PInv.free {qs : List (List Int)} {p : Int} (H : PInv qs) : PInv (qs.map (keep · p)) := by
  have hnd : ∀ q ∈ qs, (keep q p).Nodup := fun q hq => (H.nd q hq).filter _
  refine ⟨fun q hq => ?_, fun x k1 k2 h1 h2 t1 t2 => ?_, fun x k1 k2 h1 h2 t1 t2 => ?_⟩
  · simp only [List.mem_map] at hq
    obtain ⟨r, hr, rfl⟩ := hq
    exact hnd r hr
  · simp only [List.length_map] at h1 h2
    rw [List.getElem_map] at t1 t2
    exact H.one x k1 k2 h1 h2 (tail_keep t1) (tail_keep t2)
  · simp only [List.length_map] at h1 h2
    rw [List.getElem_map] at t1 t2
    rcases head_keep t2 with h | h
    · exact H.lt x k1 k2 h1 h2 (tail_keep t1) h
    · have hk := H.one x k1 k2 h1 h2 (tail_keep t1) h
      subst hk
      exact (head_tail (hnd _ (List.getElem_mem h1)) t2 t1).elim
theorem holdsL_mem {qs : List (List Int)} {p x : Int} : ∀ {m : Nat}, x ∈ holdsL qs p m ↔ ∃ k : Nat, k < m ∧ x = (k : Int) ∧ headIs ((qs[k]?).getD []) p = true
  | 0 => by simp [holdsL]
  | m + 1 => by
    simp only [holdsL, List.mem_append, holdsL_mem (m := m)]
    constructor
    · rintro (⟨k, hk, h⟩ | h)
      · exact ⟨k, by omega, h⟩
      · split at h
        · rename_i hc
          simp only [List.mem_singleton] at h
          exact ⟨m, by omega, h, hc⟩
        · simp at h
    · rintro ⟨k, hk, hx, hc⟩
      rcases Nat.lt_or_ge k m with h | h
      · exact .inl ⟨k, h, hx, hc⟩
      · have : k = m := by omega
        subst this
        right; rw [if_pos hc]; simp [hx]
theorem holdsL_last {qs : List (List Int)} {p x : Int} : ∀ {m : Nat}, x ∈ holdsL qs p m → ∃ hL : 0 < (holdsL qs p m).length, x ≤ (holdsL qs p m)[(holdsL qs p m).length - 1]
  | 0, h => by simp [holdsL] at h
  | m + 1, h => by
    by_cases hc : headIs ((qs[m]?).getD []) p = true
    · have he : holdsL qs p (m + 1) = holdsL qs p m ++ [(m : Int)] := by rw [holdsL, if_pos hc]
      obtain ⟨k, hk, hx, _⟩ := holdsL_mem.1 h
      refine ⟨by rw [he]; simp, ?_⟩
      simp only [he, List.length_append, List.length_cons, List.length_nil, Nat.zero_add, Nat.add_sub_cancel]
      rw [List.getElem_append_right (by omega)]
      simp; omega
    · have he : holdsL qs p (m + 1) = holdsL qs p m := by rw [holdsL, if_neg hc, List.append_nil]
      rw [he] at h
      obtain ⟨hL, hx⟩ := holdsL_last h
      refine ⟨by rw [he]; exact hL, ?_⟩
      simp only [he]; exact hx
theorem head_is {q : List Int} {p : Int} : headIs q p = true ↔ q.head? = some p := by
  cases q <;> simp [headIs]
theorem PInv.want {qs : List (List Int)} {procs p id : Int} (H : PInv qs) : PInv (wantQ qs procs p id) := by
  unfold wantQ
  split
  · rename_i hg
    obtain ⟨_, hid, hnh, hlg, hnw⟩ := hg
    obtain ⟨i, rfl⟩ : ∃ i : Nat, id = (i : Int) := ⟨id.toNat, by omega⟩
    have hi : i < qs.length := by omega
    rw [queueAt_nat hi]
    simp only [Int.toNat_natCast]
    have htl : ∀ k (hk : k < qs.length), p ∉ qs[k].tail := fun k hk ht => by
      apply hnw
      unfold waitsN
      exact List.findIdx_lt_length_of_exists ⟨qs[k], List.getElem_mem hk, by simpa using ht⟩
    have hhd : ∀ k (hk : k < qs.length), qs[k].head? = some p → k < i := fun k hk hh => by
      have hm : (k : Int) ∈ holdsL qs p qs.length := holdsL_mem.2 ⟨k, hk, rfl, by rw [List.getElem?_eq_getElem hk]; exact head_is.2 hh⟩
      obtain ⟨hL, hx⟩ := holdsL_last hm
      have hne : (k : Int) ≠ i := fun e => hnh (e ▸ hm)
      unfold lastGt at hlg
      rw [dif_pos hL] at hlg
      have := of_decide_eq_false hlg
      omega
    have hnm : p ∉ qs[i] := fun hm => by
      cases hq : qs[i] with
      | nil => rw [hq] at hm; simp at hm
      | cons y q =>
        rw [hq] at hm
        simp only [List.mem_cons] at hm
        rcases hm with rfl | hm
        · have := hhd i hi (by rw [hq]; rfl); omega
        · exact htl i hi (by rw [hq]; exact hm)
    have htail : ∀ x k (hk : k < (qs.set i (qs[i] ++ [p])).length), x ∈ ((qs.set i (qs[i] ++ [p]))[k]).tail → x ∈ (qs[k]'(by simpa using hk)).tail ∨ (x = p ∧ k = i) := fun x k hk ht => by
      rw [List.getElem_set] at ht
      split at ht
      · rename_i e
        subst e
        cases hq : qs[i] with
        | nil => rw [hq] at ht; simp at ht
        | cons y q =>
          rw [hq] at ht
          simp only [List.cons_append, List.tail_cons, List.mem_append, List.mem_singleton] at ht ⊢
          rcases ht with h | h
          · exact .inl h
          · exact .inr ⟨h, trivial⟩
      · exact .inl ht
    have hhead : ∀ x k (hk : k < (qs.set i (qs[i] ++ [p])).length), ((qs.set i (qs[i] ++ [p]))[k]).head? = some x → (qs[k]'(by simpa using hk)).head? = some x ∨ (x = p ∧ k = i ∧ qs[i] = []) := fun x k hk hh => by
      rw [List.getElem_set] at hh
      split at hh
      · rename_i e
        subst e
        cases hq : qs[i] with
        | nil => rw [hq] at hh; simp at hh; exact .inr ⟨hh.symm, rfl, rfl⟩
        | cons y q => rw [hq] at hh; exact .inl hh
      · exact .inl hh
    refine ⟨fun q hq => ?_, fun x k1 k2 h1 h2 t1 t2 => ?_, fun x k1 k2 h1 h2 t1 t2 => ?_⟩
    · rcases List.mem_or_eq_of_mem_set hq with h | h
      · exact H.nd q h
      · rw [h, List.nodup_append]
        exact ⟨H.nd _ (List.getElem_mem hi), by simp, fun a ha b hb => by simp at hb; subst hb; intro e; subst e; exact hnm ha⟩
    · have l1 : k1 < qs.length := by simpa using h1
      have l2 : k2 < qs.length := by simpa using h2
      rcases htail x k1 h1 t1 with a | ⟨rfl, rfl⟩
      · rcases htail x k2 h2 t2 with c | ⟨rfl, rfl⟩
        · exact H.one x k1 k2 l1 l2 a c
        · exact (htl k1 l1 a).elim
      · rcases htail x k2 h2 t2 with c | ⟨_, rfl⟩
        · exact (htl k2 l2 c).elim
        · rfl
    · have l1 : k1 < qs.length := by simpa using h1
      have l2 : k2 < qs.length := by simpa using h2
      rcases htail x k1 h1 t1 with a | ⟨rfl, rfl⟩
      · rcases hhead x k2 h2 t2 with c | ⟨rfl, rfl, _⟩
        · exact H.lt x k1 k2 l1 l2 a c
        · exact (htl k1 l1 a).elim
      · rcases hhead x k2 h2 t2 with c | ⟨_, rfl, hn⟩
        · exact hhd k2 l2 c
        · rw [List.getElem_set_self, hn] at t1; simp at t1
  · exact H
theorem PInv.kept : Kept PInv := ⟨PInv.new, fun _ _ _ H _ _ _ _ => H.want, fun qs p H _ _ => by
  unfold freeQ
  split
  · exact H.free
  · exact H⟩
end Go.Proofs.Ytgbcdjofkfdgnaa
