/- Words ahead: the row on scripts. -/
import Derived.Test.YtmohiefnoflndaaAheadQ
namespace Go.Proofs.Ytmohiefnoflndaa
set_option maxRecDepth 4000
open Go Go.Par PH Go.ChangeShapes Go.WideShapes Go.ChangeAt Go.RowKit
set_option maxRecDepth 100000 in
theorem aheadPlays_lifted (os : Os) (started : os.Started) (H : Type) (enc : TypeId × Value → H) :
    ReturnsInHanded {} Try.checked os 3 .any (Rows.aheadPlaysSpec.pre6 enc Try.prog Try.f3 Rows.aheadPlaysRow.domain false) (Rows.aheadPlaysSpec.post enc Try.prog Try.f3 false true false false) := by
  refine returnsInHanded_of_change_sized (C := Try.checked) own_ started (by kernel_rfl) Try.func3
    (ChangeSpec.witness6 (enc := enc) (C := Try.checked) false ⟨#[], #[.slice none 0 0], []⟩ 8 (by kernel_rfl) (by kernel_rfl) (by kernel_rfl) (by kernel_rfl)) ?_
  intro W base args ds gs before hval0 hW hcnd hwt _
  have hval : ∀ (j : Nat) t v, Try.f3.params[j]? = some t → args[j]? = some v → Value.okWide Try.prog W .any base t v := hval0
  have hW' := hW
  obtain ⟨p, q, hA0, hV, rfl, hfz, hnd⟩ := hW
  have hA : DataW.TrodAll enc Try.prog W 0 (fun _ => true) true Try.f3.params.toList args.toList ds p := hA0
  rw [Try.params3] at hA hval
  obtain ⟨v0, d0, rfl, rfl, h0⟩ := trodAll_one hA
  obtain ⟨l, hv, hok⟩ := open_stq (hval 0 22 v0 rfl rfl) h0 (fun k hk => of_decide_eq_true (List.all_eq_true.1 hwt k (weightsEach_mem (i := 0) rfl rfl hk)))
  clear hA0 hval0
  refine (plays_law (hp W) v0 l hv hok).below.mono fun e W' ⟨hb, v, R', h', he, hv⟩ => ?_
  subst he; subst hv
  exact ⟨_, rfl, post_true (tb := 4) laid_ (of_decide_eq_true (by kernel_rfl)) rfl rfl rfl rfl rfl rfl hW' hb⟩
theorem aheadPlays_holds : Rows.AheadPlaysSaid :=
  OpenClaim.holds_of_wide 3 Try.f3 rfl rfl rfl rfl rfl rfl rfl ⟨rfl, rfl, rfl, rfl, rfl⟩ rfl rfl rfl rfl rfl (by kernel_rfl) Try.func3 (by kernel_rfl)
    (of_decide_eq_true (by kernel_rfl)) (by unfold Func.isWrapper; first | (rw [if_pos (by decide +kernel)]; kernel_rfl) | (rw [if_neg (by decide +kernel)]; exact ⟨rfl, rfl⟩))
    (fun os started H enc _ => aheadPlays_lifted os started H enc)
end Go.Proofs.Ytmohiefnoflndaa
