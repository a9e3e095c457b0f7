/- Locks: as long as somebody waits, somebody goes (plain). -/
import Derived.Test.YtgbcdjofkfdgnaaLockW
import Derived.Test.YtgbcdjofkfdgnaaEngF
namespace Go.Proofs.Ytgbcdjofkfdgnaa
structure PInv8 (qs : List (List Int)) : Prop where
  p : PInv qs
  r : ∀ q ∈ qs, ∀ x ∈ q, 0 ≤ x ∧ x < 8
theorem PInv8.kept : Kept PInv8 := by
  refine ⟨⟨PInv.kept.new, fun q hq => by rw [List.eq_of_mem_replicate hq]; simp⟩, fun qs p id H h1 h2 h3 h4 => ⟨PInv.kept.want _ _ _ H.p h1 h2 h3 h4, fun q hq x hx => ?_⟩, fun qs p H h1 h2 => ⟨PInv.kept.free _ _ H.p h1 h2, fun q hq x hx => ?_⟩⟩
  · unfold wantQ at hq
    split at hq
    · rcases List.mem_or_eq_of_mem_set hq with h | h
      · exact H.r q h x hx
      · rw [h] at hx
        simp only [List.mem_append, List.mem_singleton] at hx
        rcases hx with h | h
        · unfold queueAt at h
          split at h
          · rename_i hc
            rw [List.getElem?_eq_getElem (by omega)] at h
            exact H.r _ (List.getElem_mem _) x h
          · simp at h
        · omega
    · exact H.r q hq x hx
  · unfold freeQ at hq
    split at hq
    · simp only [List.mem_map] at hq
      obtain ⟨r, hr, rfl⟩ := hq
      exact H.r r hr x (List.mem_filter.1 hx).1
    · exact H.r q hq x hx
def wB (qs : List (List Int)) (p : Int) : Bool := decide (waitsN qs p < qs.length)
def wI (qs : List (List Int)) (p : Int) : Int := if waitsN qs p < qs.length then (waitsN qs p : Int) else 0
theorem waitsV_eq (qs : List (List Int)) (p : Int) : waitsV qs p = .tuple #[.int .i64 (wI qs p), .bool (wB qs p)] := by
  unfold waitsV wI wB
  split
  · rename_i h; simp [h]
  · rename_i h; simp [h]
theorem wB_tail {qs : List (List Int)} {p : Int} (h : wB qs p = true) : ∃ hk : waitsN qs p < qs.length, p ∈ qs[waitsN qs p].tail := by
  have h := of_decide_eq_true h
  refine ⟨h, ?_⟩
  have := List.findIdx_getElem (xs := qs) (p := fun (q : List Int) => decide (p ∈ q.tail)) (w := h)
  exact of_decide_eq_true this
theorem wB_of {qs : List (List Int)} {p : Int} {k : Nat} (hk : k < qs.length) (h : p ∈ qs[k].tail) : wB qs p = true := by
  unfold wB waitsN
  refine decide_eq_true (List.findIdx_lt_length_of_exists ⟨qs[k], List.getElem_mem hk, by simpa using h⟩)
theorem holds_at {qs : List (List Int)} {p : Int} {m i : Nat} (hi : i < (holdsL qs p m).length) : ∃ k : Nat, k < m ∧ (holdsL qs p m)[i] = k ∧ headIs ((qs[k]?).getD []) p = true := by
  obtain ⟨k, h1, h2, h3⟩ := holdsL_mem.1 (List.getElem_mem hi)
  exact ⟨k, h1, h2, h3⟩
theorem holds_lt {qs : List (List Int)} (H : PInv qs) {p : Int} (hw : wB qs p = true) {i : Nat} (hi : i < (holdsL qs p qs.length).length) : (holdsL qs p qs.length)[i] < wI qs p := by
  obtain ⟨k, h1, h2, h3⟩ := holds_at hi
  obtain ⟨hk, ht⟩ := wB_tail hw
  rw [List.getElem?_eq_getElem h1] at h3
  have := H.lt p _ k hk h1 ht (head_is.1 h3)
  rw [h2]; unfold wI; rw [if_pos hk]; omega
theorem holds_asc {qs : List (List Int)} {p : Int} : ∀ {m : Nat} {i j : Nat} (hj : j < (holdsL qs p m).length) (hij : i < j), (holdsL qs p m)[i] < (holdsL qs p m)[j]
  | 0, _, _, hj, _ => by simp [holdsL] at hj
  | m + 1, i, j, hj, hij => by
    by_cases hc : headIs ((qs[m]?).getD []) p = true
    · have he : holdsL qs p (m + 1) = holdsL qs p m ++ [(m : Int)] := by rw [holdsL, if_pos hc]
      simp only [he] at hj ⊢
      simp only [List.length_append, List.length_singleton] at hj
      by_cases hjl : j < (holdsL qs p m).length
      · rw [List.getElem_append_left hjl, List.getElem_append_left (by omega)]
        exact holds_asc hjl hij
      · rw [List.getElem_append_left (by omega), List.getElem_append_right (by omega)]
        obtain ⟨k, h1, h2, _⟩ := holds_at (qs := qs) (p := p) (m := m) (i := i) (by omega)
        rw [h2]; simp; omega
    · have he : holdsL qs p (m + 1) = holdsL qs p m := by rw [holdsL, if_neg hc, List.append_nil]
      simp only [he] at hj ⊢
      exact holds_asc hj hij
def soB (qs : List (List Int)) : Nat → Bool
  | 0 => false
  | p + 1 => soB qs p || wB qs p
def goes (qs : List (List Int)) (p : Int) : Bool := !wB qs p && decide (0 < (holdsL qs p qs.length).length)
def goB (qs : List (List Int)) : Nat → Bool
  | 0 => false
  | p + 1 => goB qs p || goes qs p
theorem soB_true {qs : List (List Int)} : ∀ {n : Nat}, soB qs n = true → ∃ j : Nat, j < n ∧ wB qs j = true
  | 0, h => by simp [soB] at h
  | n + 1, h => by
    simp only [soB, Bool.or_eq_true] at h
    rcases h with h | h
    · obtain ⟨j, hj, hw⟩ := soB_true h
      exact ⟨j, by omega, hw⟩
    · exact ⟨n, by omega, h⟩
theorem goB_of {qs : List (List Int)} : ∀ {n j : Nat}, j < n → goes qs j = true → goB qs n = true
  | 0, _, h, _ => by omega
  | n + 1, j, h, hg => by
    simp only [goB, Bool.or_eq_true]
    by_cases hj : j < n
    · exact .inl (goB_of hj hg)
    · have : j = n := by omega
      subst this; exact .inr hg
/-- The head of the greatest queue in which somebody waits goes. -/
theorem top_goes {qs : List (List Int)} (H : PInv qs) : ∀ (m : Nat) (hm : m ≤ qs.length) (hab : ∀ k (hk : k < qs.length), m ≤ k → qs[k].tail = []) (k : Nat) (hk : k < m), qs[k].tail ≠ [] → ∃ x k, ∃ hk : k < qs.length, qs[k].head? = some x ∧ wB qs x = false
  | 0, _, _, k, hk, _ => by omega
  | m + 1, hm, hab, k, hk, hne => by
    by_cases ht : qs[m].tail = []
    · refine top_goes H m (by omega) (fun k' hk' hmk => ?_) k ?_ hne
      · by_cases h : k' = m
        · subst h; exact ht
        · exact hab k' hk' (by omega)
      · have : k ≠ m := fun e => by subst e; exact hne ht
        omega
    · cases hq : qs[m] with
      | nil => rw [hq] at ht; exact (ht rfl).elim
      | cons x q =>
        refine ⟨x, m, by omega, by rw [hq]; rfl, ?_⟩
        cases hw : wB qs x with
        | false => rfl
        | true =>
          obtain ⟨h1, h2⟩ := wB_tail hw
          have hh : qs[m].head? = some x := by rw [hq]; rfl
          have hlt := H.lt x _ m h1 (by omega) h2 hh
          rw [hab _ h1 (by omega)] at h2
          simp at h2
theorem goes_of {qs : List (List Int)} {x : Int} {k : Nat} (hk : k < qs.length) (hh : qs[k].head? = some x) (hw : wB qs x = false) : goes qs x = true := by
  unfold goes
  rw [hw]
  have hm : (k : Int) ∈ holdsL qs x qs.length := holdsL_mem.2 ⟨k, hk, rfl, by rw [List.getElem?_eq_getElem hk]; exact head_is.2 hh⟩
  simp [List.length_pos_of_mem hm]
theorem moves_plain {qs : List (List Int)} (H : PInv8 qs) : soB qs 8 = true → goB qs 8 = true := fun h => by
  obtain ⟨j, hj, hw⟩ := soB_true h
  obtain ⟨hk, ht⟩ := wB_tail hw
  obtain ⟨x, k, hk2, hh, hx⟩ := top_goes H.p qs.length (Nat.le_refl _) (fun k hk h => by omega) _ hk (by intro e; rw [e] at ht; simp at ht)
  have hr := H.r _ (List.getElem_mem hk2) x (List.mem_of_head? hh)
  obtain ⟨n, rfl⟩ : ∃ n : Nat, x = (n : Int) := ⟨x.toNat, by omega⟩
  exact goB_of (j := n) (by omega) (goes_of hk2 hh hx)
theorem nodup_inj {q : List Int} (hn : q.Nodup) {i j : Nat} (hi : i < q.length) (hj : j < q.length) (e : q[i] = q[j]) : i = j := by
  have := List.pairwise_iff_getElem.1 hn
  rcases Nat.lt_trichotomy i j with h | h | h
  · exact (this i j hi hj h e).elim
  · exact h
  · exact (this j i hj hi h e.symm).elim
theorem fst_at {q : List Int} {p : Int} (h : fstI q p < q.length) : q[fstI q p] = p := by
  have := List.findIdx_getElem (xs := q) (p := fun x => decide (x = p)) (w := h)
  exact of_decide_eq_true this
/-- Where a process stands in the queues ahead of id. -/
def timesI (qs : List (List Int)) (p : Int) (id : Nat) : Int := if waitsN qs p < id then 1 else 0
theorem times_step {qs : List (List Int)} (H : PInv qs) {p : Int} {id : Nat} (hid : id < qs.length) {f : Nat} (hf : f = fstI qs[id] p) (c : Int)
    (hc : (f = 0 ∧ c = 0) ∨ (0 < f ∧ f < qs[id].length ∧ c = 1) ∨ (f = qs[id].length ∧ c = 0)) : timesI qs p (id + 1) = timesI qs p id + c := by
  have hmem : p ∈ qs[id].tail ↔ 0 < f ∧ f < qs[id].length := by
    rw [mem_tail]
    constructor
    · rintro ⟨i, hi, h0, e⟩
      have hfi : f ≤ i := by
        rw [hf]; unfold fstI
        exact Nat.le_of_not_lt fun hlt => by
          have := List.not_of_lt_findIdx hlt
          simp [e] at this
      refine ⟨?_, by omega⟩
      rcases Nat.eq_zero_or_pos f with h | h
      · exfalso
        have hl : fstI qs[id] p < qs[id].length := by omega
        have h2 := fst_at hl
        have hnd := H.nd _ (List.getElem_mem hid)
        have := nodup_inj hnd hl hi (h2.trans e.symm)
        omega
      · exact h
    · rintro ⟨h0, h1⟩
      refine ⟨f, h1, h0, ?_⟩
      subst hf
      exact fst_at h1
  unfold timesI
  by_cases hw : p ∈ qs[id].tail
  · have hc1 : c = 1 := by have := hmem.1 hw; omega
    have hW : wB qs p = true := wB_of hid hw
    obtain ⟨hk, ht⟩ := wB_tail hW
    have := H.one p _ _ hk hid ht hw
    rw [if_pos (by omega), if_neg (by omega)]; omega
  · have hne : waitsN qs p ≠ id := fun e => by
      have hW : wB qs p = true := by unfold wB; exact decide_eq_true (by omega)
      obtain ⟨hk, ht⟩ := wB_tail hW
      simp only [e] at ht
      exact hw ht
    have hc0 : c = 0 := by
      rcases hc with h | h | h
      · exact h.2
      · exact (hw (hmem.2 ⟨h.1, h.2.1⟩)).elim
      · exact h.2
    have : (waitsN qs p < id + 1) = (waitsN qs p < id) := by apply propext; omega
    simp only [this, hc0, Int.add_zero]
theorem fst_iff {q : List Int} (hn : q.Nodup) {p : Int} {k : Nat} (hk : k < q.length) : q[k] = p ↔ k = fstI q p := by
  constructor
  · intro e
    have hl : fstI q p < q.length := List.findIdx_lt_length_of_exists ⟨q[k], List.getElem_mem hk, by simp [e]⟩
    exact nodup_inj hn hk hl (e.trans (fst_at hl).symm)
  · rintro rfl
    exact fst_at hk
theorem fst_le (q : List Int) (p : Int) : fstI q p ≤ q.length := List.findIdx_le_length
end Go.Proofs.Ytgbcdjofkfdgnaa
