/- Directories: what is there behind a step (plain). -/
import Derived.Test.YtgpanbmjmpondaaDirZ
namespace Go.Proofs.Ytgpanbmjmpondaa
set_option maxRecDepth 4000
open Go Go.Par PH
def slotG (r : List Chu) (c s : Nat) : Slo := match r[c]? with | some x => (x.sl[s]?).getD slo0 | none => slo0
theorem slots_mem {d : Dr} {k c s : Nat} (hk : k < 4) (hc : c < (d.row k).length) (hs : s < 10) : ((⟨(k : Int), (c : Int), (s : Int)⟩ : Spo), slotG (d.row k) c s) ∈ slotsL d := by
  have := row_le d k
  simp only [slotsL, restF, lineF, List.drop_zero, List.mem_flatMap, List.mem_range]
  refine ⟨c, by omega, k, hk, ?_⟩
  unfold cellK slotG
  rw [List.getElem?_eq_getElem hc]
  simp only [itemsS, List.drop_zero, List.mem_map, List.mem_range]
  exact ⟨s, hs, rfl⟩
theorem mem_all {d : Dr} {e : Spo × Slo} : e ∈ allL d ↔ ∃ k c s : Nat, k < 4 ∧ s < 10 ∧ e.1 = ⟨k, c, s⟩ ∧ e.2 = slotG (d.row k) c s ∧ ¬ e.2 = slo0 := by
  constructor
  · intro h
    obtain ⟨h1, h2⟩ := all_slots h
    obtain ⟨k, c, s, hk, hs, hc, e1, e2⟩ := slots_ok h1
    exact ⟨k, c, s, hk, hs, e1, by rw [e2]; unfold slotG; rw [List.getElem?_eq_getElem hc], h2⟩
  · rintro ⟨k, c, s, hk, hs, e1, e2, h⟩
    have hc : c < (d.row k).length := by
      rcases Nat.lt_or_ge c (d.row k).length with h' | h'
      · exact h'
      · exfalso; apply h; rw [e2]; unfold slotG; rw [List.getElem?_eq_none h']
    have := slots_mem hk hc hs
    unfold allL neL
    rw [List.mem_filter]
    exact ⟨by rw [← e1, ← e2] at this; exact this, by simpa using h⟩
theorem slotG_set {r : List Chu} (ht : tenR r) {c s : Nat} (hc : c ≤ r.length) (hs : s < 10) (y : Slo) (c' s' : Nat) (hs' : s' < 10) : slotG (setRw r c s y) c' s' = if c' = c ∧ s' = s then y else slotG r c' s' := by
  have hg : ∀ q, (grow r c)[q]? = if q = r.length ∧ c = r.length then some chu0 else r[q]? := fun q => by
    unfold grow
    by_cases h : c = r.length
    · rw [if_pos h]
      by_cases hq : q = r.length
      · rw [if_pos ⟨hq, h⟩, hq, List.getElem?_append_right (Nat.le_refl _)]; simp
      · rw [if_neg (fun h => hq h.1)]
        rcases Nat.lt_or_ge q r.length with h' | h'
        · rw [List.getElem?_append_left h']
        · rw [List.getElem?_eq_none h', List.getElem?_eq_none (by rw [List.length_append, List.length_singleton]; omega)]
    · rw [if_neg h, if_neg (fun h' => h h'.2)]
  have hgl : c < (grow r c).length := by unfold grow; split <;> (try simp only [List.length_append, List.length_singleton]) <;> omega
  have h10 : ∀ x, (grow r c)[c]? = some x → x.sl.length = 10 := fun x hx => ten_grow ht c x (List.mem_of_getElem? hx)
  unfold slotG setRw
  by_cases hcc : c' = c
  · subst hcc
    rw [List.getElem?_set_self hgl]
    dsimp only
    have hgc := List.getElem?_eq_getElem hgl
    have hx := h10 _ hgc
    rw [hgc]
    simp only [Option.getD_some, setC]
    by_cases hss : s' = s
    · subst hss
      rw [List.getElem?_set_self (by omega)]; simp
    · rw [List.getElem?_set_ne (fun e => hss e.symm), if_neg (fun h => hss h.2)]
      have h1 := hg c'
      rw [hgc] at h1
      by_cases hl : c' = r.length
      · rw [if_pos ⟨hl, hl⟩] at h1
        have hr : r[c']? = none := List.getElem?_eq_none (by omega)
        rw [Option.some.inj h1, hr]
        show (((List.replicate 10 slo0)[s']?).getD slo0) = slo0
        rw [List.getElem?_replicate]; split <;> rfl
      · rw [if_neg (fun h => hl h.1)] at h1
        rw [← h1]
  · rw [List.getElem?_set_ne (fun e => hcc e.symm), if_neg (fun h => hcc h.1), hg, if_neg (fun h => by omega)]
theorem cast_inj {k c s k' c' s' : Nat} (h : (⟨k, c, s⟩ : Spo) = ⟨k', c', s'⟩) : k = k' ∧ c = c' ∧ s = s' := by
  simp only [Spo.mk.injEq] at h
  omega
theorem all_with {d : Dr} (hte : ∀ k, k < 4 → tenR (d.row k)) {k c s : Nat} (hk : k < 4) (hc : c ≤ (d.row k).length) (hs : s < 10) (y : Slo) (e : Spo × Slo) :
    e ∈ allL (withD d k c s y) ↔ (¬ y = slo0 ∧ e = (⟨k, c, s⟩, y)) ∨ (¬ e.1 = ⟨k, c, s⟩ ∧ e ∈ allL d) := by
  rw [mem_all, mem_all]
  constructor
  · rintro ⟨k', c', s', hk', hs', e1, e2, h⟩
    unfold withD at e2
    rw [row_put _ _ _ _ hk hk'] at e2
    by_cases hkk : k' = k
    · subst hkk
      rw [if_pos rfl, slotG_set (hte k' hk) hc hs y c' s' hs'] at e2
      by_cases hcs : c' = c ∧ s' = s
      · rw [if_pos hcs] at e2
        left
        exact ⟨by rw [← e2]; exact h, by rw [← hcs.1, ← hcs.2, ← e1, ← e2]⟩
      · rw [if_neg hcs] at e2
        right
        exact ⟨fun h' => hcs (by have := cast_inj (e1.symm.trans h'); exact ⟨this.2.1, this.2.2⟩), k', c', s', hk', hs', e1, e2, h⟩
    · rw [if_neg hkk] at e2
      right
      exact ⟨fun h' => hkk (cast_inj (e1.symm.trans h')).1, k', c', s', hk', hs', e1, e2, h⟩
  · rintro (⟨hy, rfl⟩ | ⟨hne, k', c', s', hk', hs', e1, e2, h⟩)
    · refine ⟨k, c, s, hk, hs, rfl, ?_, hy⟩
      unfold withD
      rw [row_put _ _ _ _ hk hk, if_pos rfl, slotG_set (hte k hk) hc hs y c s hs, if_pos ⟨rfl, rfl⟩]
    · refine ⟨k', c', s', hk', hs', e1, ?_, h⟩
      unfold withD
      rw [row_put _ _ _ _ hk hk']
      by_cases hkk : k' = k
      · subst hkk
        rw [if_pos rfl, slotG_set (hte k' hk) hc hs y c' s' hs', if_neg (fun h' => hne (by rw [e1, h'.1, h'.2]))]
        exact e2
      · rw [if_neg hkk]; exact e2
theorem sorted_slots (d : Dr) : (slotsL d).Pairwise fun a b => cookS a.1 < cookS b.1 := by
  have hit : ∀ (k c : Nat) (x : Chu) (e : Spo × Slo), e ∈ itemsS k c x 0 → ∃ s : Nat, s < 10 ∧ e.1 = ⟨k, c, s⟩ := fun k c x e he => by
    simp only [itemsS, List.drop_zero, List.mem_map, List.mem_range] at he
    obtain ⟨s, hs, rfl⟩ := he
    exact ⟨s, hs, rfl⟩
  have hce : ∀ (k c : Nat) (e : Spo × Slo), e ∈ cellK d k c → ∃ s : Nat, s < 10 ∧ e.1 = ⟨k, c, s⟩ := fun k c e he => by
    unfold cellK at he
    split at he
    · exact hit _ _ _ e he
    · cases he
  have hli : ∀ (c : Nat) (e : Spo × Slo), e ∈ lineF d c 0 → ∃ k s : Nat, k < 4 ∧ s < 10 ∧ e.1 = ⟨k, c, s⟩ := fun c e he => by
    simp only [lineF, List.drop_zero, List.mem_flatMap, List.mem_range] at he
    obtain ⟨k, hk, he⟩ := he
    obtain ⟨s, hs, h⟩ := hce k c e he
    exact ⟨k, s, hk, hs, h⟩
  unfold slotsL restF
  rw [List.drop_zero, List.pairwise_flatMap]
  refine ⟨fun c _ => ?_, pwk List.pairwise_lt_range fun {c c'} hcc x hx y hy => ?_⟩
  · unfold lineF
    rw [List.drop_zero, List.pairwise_flatMap]
    refine ⟨fun k _ => ?_, pwk List.pairwise_lt_range fun {k k'} hkk x hx y hy => ?_⟩
    · unfold cellK
      split
      · unfold itemsS
        rw [List.drop_zero, List.pairwise_map]
        exact pwk List.pairwise_lt_range fun {s s'} hss => by simp only [cookS]; omega
      · exact .nil
    · obtain ⟨s, hs, e1⟩ := hce _ _ _ hx
      obtain ⟨s', hs', e2⟩ := hce _ _ _ hy
      rw [e1, e2]; simp only [cookS]; omega
  · obtain ⟨k, s, hk, hs, e1⟩ := hli _ _ hx
    obtain ⟨k', s', hk', hs', e2⟩ := hli _ _ hy
    rw [e1, e2]; simp only [cookS]; omega
theorem sorted_all (d : Dr) : (allL d).Pairwise fun a b => cookS a.1 < cookS b.1 := (sorted_slots d).filter _
theorem nodup_all (d : Dr) : (allL d).Nodup := pwk (sorted_all d) fun {a b} h e => by rw [e] at h; omega
end Go.Proofs.Ytgpanbmjmpondaa
