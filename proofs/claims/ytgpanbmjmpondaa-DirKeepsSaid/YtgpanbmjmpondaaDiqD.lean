/- Directories: what is known behind steps (plain). -/
import Derived.Test.YtgpanbmjmpondaaDiqC
namespace Go.Proofs.Ytgpanbmjmpondaa
set_option maxRecDepth 4000
open Go Go.Par PH
section
variable {κ β : Type} [DecidableEq κ]
def keysM (L : List (κ × β)) : List κ := L.map fun x => x.1
theorem lk_none : ∀ {L : List (κ × β)} {k : κ}, lkM L k = none ↔ ¬ k ∈ keysM L
  | [], k => by simp [lkM, keysM]
  | x :: L, k => by
    have ih := lk_none (L := L) (k := k)
    unfold keysM at ih ⊢
    by_cases h : k = x.1
    · simp [lkM, h]
    · simp only [lkM, if_neg h, ih, List.map_cons, List.mem_cons, not_or]
      exact ⟨fun h' => ⟨h, h'⟩, fun h' => h'.2⟩
theorem lk_mem : ∀ {L : List (κ × β)} (_ : (keysM L).Nodup) {k : κ} {v : β}, lkM L k = some v ↔ (k, v) ∈ L
  | [], _, k, v => by simp [lkM]
  | x :: L, h, k, v => by
    have h' : (x.1 :: keysM L).Nodup := h
    rw [List.nodup_cons] at h'
    by_cases hk : k = x.1
    · simp only [lkM, if_pos hk, Option.some.injEq, List.mem_cons]
      constructor
      · intro e; exact .inl (by rw [hk, ← e])
      · rintro (e | e)
        · rw [← e]
        · exact absurd (List.mem_map.2 ⟨_, e, rfl⟩) (hk ▸ h'.1)
    · simp only [lkM, if_neg hk, lk_mem h'.2, List.mem_cons]
      exact ⟨.inr, fun h2 => h2.elim (fun e => absurd (congrArg Prod.fst e) hk) id⟩
theorem del_perm : ∀ {L : List (κ × β)} {k : κ} {v : β}, lkM L k = some v → L.Perm ((k, v) :: delM L k)
  | [], k, v, h => by simp [lkM] at h
  | x :: L, k, v, h => by
    by_cases hk : k = x.1
    · simp only [lkM, if_pos hk, Option.some.injEq] at h
      simp only [delM, if_pos hk]
      rw [show (k, v) = x from by rw [hk, ← h]]
    · simp only [lkM, if_neg hk] at h
      simp only [delM, if_neg hk]
      exact ((del_perm h).cons x).trans (.swap _ _ _)
theorem ix_lkn {L : List (κ × β)} {k : κ} (h : lkM L k = none) : ixM L k = none := by
  rcases ix_lk L k with ⟨h1, _⟩ | ⟨j, v, _, h2⟩
  · exact h1
  · rw [h] at h2; cases h2
end
def entK (e : Spo × Slo) : Bs × (Spo × Slo) := (e.2.nm, e)
structure InvD (d : Dr) (n : Nat) : Prop where
  may : mayD d = true
  ten : tenD d
  rows : ∀ k, k < 4 → (d.row k).length ≤ n
  cnt : (allL d).length ≤ n
theorem InvD.zero : InvD dr0 0 := ⟨al12, (fun k hk => by
  have hkk : k = 0 ∨ k = 1 ∨ k = 2 ∨ k = 3 := by omega
  rcases hkk with rfl | rfl | rfl | rfl <;> exact fun x hx => by cases hx), (fun k hk => by
  have hkk : k = 0 ∨ k = 1 ∨ k = 2 ∨ k = 3 := by omega
  rcases hkk with rfl | rfl | rfl | rfl <;> exact Nat.le_refl _), Nat.le_refl _⟩
theorem InvD.nd {d : Dr} {n : Nat} (h : InvD d n) : (nms (allL d)).Nodup := (may_iff.1 h.may).2.2
theorem InvD.ok {d : Dr} {n : Nat} (h : InvD d n) {e : Spo × Slo} (he : e ∈ allL d) : checkE e.2.nm = 0 := by
  have := (may_iff.1 h.may).2.1 e he
  simp only [okS, Bool.and_eq_true, decide_eq_true_eq] at this
  exact this.2.1
theorem perm_take {d d' : Dr} {e : Spo × Slo} (hnd : (nms (allL d)).Nodup) (he : e ∈ allL d) (h : ∀ a, a ∈ allL d' ↔ a ∈ allL d ∧ ¬ a.2.nm = e.2.nm) : (allL d).Perm (e :: allL d') := by
  refine (List.perm_ext_iff_of_nodup (nodup_all d) ?_).2 fun a => ?_
  · rw [List.nodup_cons]
    exact ⟨fun h' => ((h e).1 h').2 rfl, nodup_all d'⟩
  · rw [List.mem_cons, h]
    constructor
    · intro ha
      by_cases hn : a.2.nm = e.2.nm
      · exact .inl (inj_nms hnd a ha e he hn)
      · exact .inr ⟨ha, hn⟩
    · rintro (rfl | ⟨ha, _⟩)
      · exact he
      · exact ha
theorem perm_put {d d' : Dr} {e : Spo × Slo} (hno : ¬ e ∈ allL d) (h : ∀ a, a ∈ allL d' ↔ a = e ∨ a ∈ allL d) : (allL d').Perm (e :: allL d) := by
  refine (List.perm_ext_iff_of_nodup (nodup_all d') ?_).2 fun a => ?_
  · rw [List.nodup_cons]; exact ⟨hno, nodup_all d⟩
  · rw [List.mem_cons, h]
theorem step_take {d : Dr} {n : Nat} (hi : InvD d n) {t : Stp} (ht : t.tk = true) {e : Spo × Slo} (he : e ∈ allL d) (hn : e.2.nm = t.nm) : ∃ d', stepR d t = (d', 0) ∧ InvD d' (n + 1) ∧ (allL d).Perm (e :: allL d') ∧ ∀ a, a ∈ allL d' ↔ a ∈ allL d ∧ ¬ a.2.nm = t.nm := by
  obtain ⟨d', h1, h2, h3, h4, h5⟩ := take_ok hi.ten hi.may he
  have hp := perm_take hi.nd he h5
  refine ⟨d', by unfold stepR; rw [if_pos ht, ← hn]; exact h1, ⟨h2, h3, fun k hk => by have := h4 k hk; have := hi.rows k hk; omega, ?_⟩, hp, by rw [← hn]; exact h5⟩
  have := hp.length_eq
  have := hi.cnt
  simp only [List.length_cons] at *
  omega
theorem step_put {d : Dr} {n : Nat} (hi : InvD d n) (hn : n ≤ 254) {t : Stp} (ht : t.tk = false) (hio : 0 ≤ t.ino ∧ t.ino ≤ 255) (hc : checkE t.nm = 0) (hno : ∀ e ∈ allL d, ¬ e.2.nm = t.nm) :
    ∃ d' p, stepR d t = (d', 0) ∧ InvD d' (n + 1) ∧ (allL d').Perm ((p, sloT t) :: allL d) ∧ findR d' t.nm = (p, sloT t, 0) ∧ ∀ a, a ∈ allL d' ↔ a = (p, sloT t) ∨ a ∈ allL d := by
  obtain ⟨d', p, h1, h2, h3, h4, h5, h6⟩ := put_ok (x := sloT t) hi.ten hi.may (sloT_may hio) hc hno (fun k hk => by have := hi.rows k hk; omega)
  have hp := perm_put (e := (p, sloT t)) (fun h => h5 _ h rfl) h6
  refine ⟨d', p, by unfold stepR; rw [if_neg (by rw [ht]; decide)]; exact h1, ⟨h2, h3, fun k hk => by have := h4 k hk; have := hi.rows k hk; omega, ?_⟩, hp, ?_, h6⟩
  · have := hp.length_eq
    have := hi.cnt
    simp only [List.length_cons] at *
    omega
  · unfold findR
    have hf : fndL t.nm (allL d') = some (p, sloT t) := (fnd_some (may_iff.1 h2).2.2).2 ⟨(h6 _).2 (.inl rfl), rfl⟩
    rw [if_pos h2, hf]
theorem step_no {d : Dr} {n : Nat} (hi : InvD d n) {t : Stp} (h : (t.tk = true ∧ ∀ e ∈ allL d, ¬ e.2.nm = t.nm) ∨ (t.tk = false ∧ (¬ checkE t.nm = 0 ∨ ∃ e ∈ allL d, e.2.nm = t.nm))) : ¬ (stepR d t).2 = 0 := by
  unfold stepR
  rcases h with ⟨h1, h2⟩ | ⟨h1, h2⟩
  · rw [if_pos h1, take_no hi.may h2]; simp
  · rw [if_neg (by rw [h1]; decide)]
    exact put_no (x := sloT t) h2
/-- What is known of the names. -/
def knows (L : List (Bs × (Spo × Slo))) (d : Dr) : Prop := L.Perm ((allL d).map entK)
theorem knows.keys {L : List (Bs × (Spo × Slo))} {d : Dr} (h : knows L d) (hnd : (nms (allL d)).Nodup) : (keysM L).Nodup := by
  have h1 : (keysM L).Perm (keysM ((allL d).map entK)) := h.map _
  rw [h1.nodup_iff]
  unfold keysM
  rw [List.map_map]
  exact hnd
theorem knows.lk {L : List (Bs × (Spo × Slo))} {d : Dr} (h : knows L d) (hnd : (nms (allL d)).Nodup) {s : Bs} {e : Spo × Slo} : lkM L s = some e ↔ e ∈ allL d ∧ e.2.nm = s := by
  rw [lk_mem (h.keys hnd), h.mem_iff, List.mem_map]
  constructor
  · rintro ⟨a, ha, e1⟩
    simp only [entK, Prod.mk.injEq] at e1
    obtain ⟨e2, rfl⟩ := e1
    exact ⟨ha, e2⟩
  · rintro ⟨he, rfl⟩
    exact ⟨e, he, rfl⟩
theorem knows.lkn {L : List (Bs × (Spo × Slo))} {d : Dr} (h : knows L d) {s : Bs} : lkM L s = none ↔ ∀ e ∈ allL d, ¬ e.2.nm = s := by
  have h1 : (keysM L).Perm (keysM ((allL d).map entK)) := h.map _
  rw [lk_none, h1.mem_iff]
  unfold keysM
  rw [List.map_map, List.mem_map]
  constructor
  · intro h2 e he hn; exact h2 ⟨e, he, hn⟩
  · rintro h2 ⟨e, he, hn⟩; exact h2 e he hn
theorem knows.len {L : List (Bs × (Spo × Slo))} {d : Dr} (h : knows L d) : L.length = (allL d).length := by
  have := h.length_eq; simpa using this
theorem knows.take {L : List (Bs × (Spo × Slo))} {d d' : Dr} {e : Spo × Slo} (h : knows L d) (hl : lkM L e.2.nm = some e) (hp : (allL d).Perm (e :: allL d')) : knows (delM L e.2.nm) d' := by
  have h1 := del_perm hl
  have h2 : ((e.2.nm, e) :: delM L e.2.nm).Perm ((e.2.nm, e) :: (allL d').map entK) := h1.symm.trans (h.trans (hp.map entK))
  exact h2.cons_inv
theorem knows.put {L : List (Bs × (Spo × Slo))} {d d' : Dr} {e : Spo × Slo} (h : knows L d) (hl : lkM L e.2.nm = Option.none) (hp : (allL d').Perm (e :: allL d)) : knows (upM (delM L e.2.nm) e.2.nm e) d' := by
  rw [del_none (ix_lkn hl), up_none _ (ix_lkn hl)]
  have h1 : (L ++ [(e.2.nm, e)]).Perm ((e.2.nm, e) :: L) := List.perm_append_comm
  exact h1.trans ((h.cons _).trans (hp.map entK).symm)
theorem list_all {d : Dr} {n : Nat} (hi : InvD d n) (hn : n ≤ 1000) : listR d 0 1000 = (allL d, 0) := by
  unfold listR
  rw [if_pos ⟨hi.may, by omega⟩]
  unfold listL behL
  rw [List.filter_eq_self.2 (fun e he => by
    have := spot_ok (all_slots he).1
    rw [decide_eq_true_eq]
    unfold cookS; omega), List.take_of_length_le]
  have := hi.cnt
  simp only [Int.reduceToNat]; omega
end Go.Proofs.Ytgpanbmjmpondaa
