/- Engine, second text: what is owned is lent for a call. It speaks of no program. -/
import Derived.Test.YthcolbdlalpcjaaEng
namespace Go.Par
open Go PH

theorem stars_app : ∀ {R S : List SL} {a b : PH}, stars R a → stars S b → dj a b → stars (R ++ S) (un a b)
  | [], S, a, b, ha, hb, _ => by
    have ha : a = none_ := ha
    subst ha; rw [un_none_left]; exact hb
  | r :: R, S, a, b, ⟨x, y, e, hd, hx, hy⟩, hb, hab => by
    subst e
    have := dj_un_left.1 hab
    refine ⟨x, un y b, un_assoc _ _ _, dj_un_right.2 ⟨hd, this.1⟩, hx, stars_app hy hb this.2⟩

/-- What is owned may be lent: while the call runs it is known, and behind it it is owned as before. -/
theorem Does.borrow {P : Program} {f : FuncId} {args : List Value} {R : List SL} {h : PH} {A : Value → List SL → Prop}
    (H : ∀ g, stars R g → le g (un h g) → Does P f args [] (un h g) (Ret fun v R' _ => A v R')) : Does P f args R h (Ret fun v R' _ => ∃ R1, R' = R ++ R1 ∧ A v R1) := fun f' w hf hs => by
  obtain ⟨a, g, k, ek, hr, hgf, hkf, hgk, hg, hk, hw⟩ := hs
  have hgh : dj h g := fun b => by
    rcases hgf b with h1 | h1
    · exact .inr h1
    · refine .inl ?_
      cases hb : h b with
      | none => rfl
      | some o => rw [hf b o hb] at h1; cases h1
  have hdj : dj f' g := hgf.symm
  have hle : le (un h g) (un f' g) := fun b o hb => by
    simp only [un] at hb ⊢
    cases hx : h b with
    | some o' => rw [hx] at hb; rw [hf b o' hx]; exact hb
    | none =>
      rw [hx] at hb
      have hb : g b = some o := hb
      rcases hgf b with h1 | h1
      · rw [h1] at hb; cases hb
      · rw [h1]; exact hb
  have hst : St w (un h g) (un f' g) [] (un h g) w :=
    ⟨⟨rfl, rfl, rfl, Nat.le_refl _⟩, none_, none_, (un_none_right _).symm, rfl, dj_none_left _, dj_none_left _, dj_none_left _, fun b o h => by simp [none_] at h, fun b o h => by simp [none_] at h, inW_un hw hg⟩
  refine (H g hr (le_un_right hgh) (un f' g) w hle hst).mono ?_
  rintro e w' ⟨he, R', h', hle', ⟨a', g2, k2, rfl, hr2, hd1, hd2, hd3, hi1, hi2, hi3⟩, hK⟩
  have e1 := dj_un_right.1 hd1
  have e2 := dj_un_right.1 hd2
  have hgg2 : dj g g2 := e1.2.symm
  have hwf : inW f' w' := inW_le (le_un_left _ _) hi3
  have hwg : inW g w' := inW_le (le_un_right hdj) hi3
  refine ⟨he, R ++ R', un h k2, le_un_left _ _, ⟨a', un g g2, k2, rfl, stars_app hr hr2 hgg2, dj_un_left.2 ⟨hgf, e1.1⟩, e2.1, dj_un_left.2 ⟨e2.2.symm, hd3⟩, inW_un hwg hi1, hi2, hwf⟩, ?_⟩
  cases e with
  | returned v => exact ⟨R', rfl, hK⟩
  | panicked c => exact hK.elim
  | outgrown => exact hK.elim

theorem Sl_of_row {α : Type} {enc : α → List Value} {v : Value} {e : TypeId} {sz : Nat} {L : List α} {g h : PH} (hr : rowL enc v e sz L g) (hg : le g h) (he : ∀ x ∈ L, (enc x).length = sz) : Sl enc sz h v L := by
  obtain ⟨hxl, hrow⟩ := hr
  rcases hrow with ⟨rfl, h0', hx⟩ | ⟨b, cap, c, rfl, hm, hc, ht, hb⟩
  · have hL : L = [] := List.eq_nil_of_length_eq_zero h0'
    subst hL
    exact Sl.nil
  · have hb' : h b = some (.cells c.toArray e (0, 0)) := hg b _ (by have : g = one b (.cells c.toArray e (0, 0)) := hb; rw [this]; simp [one])
    refine ⟨he, some ⟨b, 0, none⟩, cap, rfl, hm, by simp, .inr ⟨b, 0, c, e, (0, 0), rfl, hb', ?_⟩⟩
    intro j hj q hq
    have hjl : (j + 1) * sz ≤ L.length * sz := Nat.mul_le_mul_right _ (by omega)
    rw [Nat.add_mul] at hjl
    rw [← flat_get' L he j hj q hq, ← ht, List.getElem?_take, if_pos (by omega)]
    simp
end Go.Par
