/- Engine, sixth text: what is owned is known for good. It speaks of no program. -/
import Derived.Test.YthcolbdlalpcjaaEngE
namespace Go.Par
open Go PH
theorem UpdE.lay {R : List SL} {h : PH} {r : SL} (i : Nat) (hi : R[i]? = some r) : UpdE R h fun R' h' => R' = R.eraseIdx i ∧ ∃ g, r g ∧ le g h' := fun κ h0 f w hf s => by
  obtain ⟨a, g, k, rfl, hr, hgf, hkf, hgk, hg, hk, hw⟩ := s
  obtain ⟨x, y, rfl, hd, hx, _, her⟩ := stars_get hi hr
  have hgf' := dj_un_left.1 hgf
  have hgk' := dj_un_left.1 hgk
  have hx0 : dj x h0 := fun b => by
    rcases hgf'.1 b with h1 | h1
    · exact .inl h1
    · refine .inr ?_
      cases hb : h0 b with
      | none => rfl
      | some o => rw [hf b o hb] at h1; cases h1
  refine ⟨R.eraseIdx i, un (un h0 k) x, le_un_left _ _, ⟨rfl, x, hx, le_un_right ?_⟩, a, y, un k x, un_assoc _ _ _, her, hgf'.2, dj_un_left.2 ⟨hkf, hgf'.1⟩, dj_un_right.2 ⟨hgk'.2, hd.symm⟩, inW_le (le_un_right hd) hg, inW_un hk (inW_le (le_un_left _ _) hg), hw⟩
  exact dj_un_left.2 ⟨hx0.symm, hgk'.1.symm⟩
end Go.Par
