/- Locks: the row on asking again. -/
import Derived.Test.YtgbcdjofkfdgnaaLockK
import Derived.Test.YtgbcdjofkfdgnaaLockU
namespace Go.Proofs.Ytgbcdjofkfdgnaa
open Go Go.Par PH Go.ChangeShapes Go.WideShapes Go.ChangeAt Go.RowKit
theorem open_u8 {H : Type} {enc : TypeId × Value → H} {W : World} {r : Reach} {base : Nat} {sp : Nat → Bool} {held : Bool} {v : Value} {d : DataW H} {ps : List MemPlace} {t : TypeId} (ht : Try.prog.underlying t = some (.int .u8)) (hval : Value.okWide Try.prog W r base t v)
    (hd : DataW.Trod enc Try.prog W 0 sp held t v d ps) : ∃ n, v = .int .u8 n ∧ (0 ≤ n ∧ n < 256) := by
  obtain ⟨n, rfl, _, _, hw⟩ := ChangeShapes.open_int (k := .u8) ht hval hd
  refine ⟨n, rfl, ?_⟩
  have hw : (decide ((0 : Int) ≤ n) && decide (n ≤ 255)) = true := hw
  simp only [Bool.and_eq_true, decide_eq_true_eq] at hw
  omega
set_option maxRecDepth 100000 in
theorem lockAgain_lifted (os : Os) (started : os.Started) (H : Type) (enc : TypeId × Value → H) :
    ReturnsInHanded {} Try.checked os 6 .any (Rows.lockAgainSpec.pre6 enc Try.prog Try.f6 Rows.lockAgainRow.domain false) (Rows.lockAgainSpec.post enc Try.prog Try.f6 false true false false) := by
  refine returnsInHanded_of_change (C := Try.checked) own_ started (by kernel_rfl) Try.func6
    (ChangeSpec.witness6 (enc := enc) (C := Try.checked) false ⟨#[], #[.slice none 0 0, .int .u8 0], []⟩ 8 (by kernel_rfl) (by kernel_rfl) (by kernel_rfl) (by kernel_rfl)) ?_
  intro W base args ds gs before hval0 hW hcnd _
  have hval : ∀ (j : Nat) t v, Try.f6.params[j]? = some t → args[j]? = some v → Value.okWide Try.prog W .any base t v := hval0
  have hW' := hW
  obtain ⟨p, q, hA0, hV, rfl, hfz, hnd⟩ := hW
  have hA : DataW.TrodAll enc Try.prog W 0 (fun _ => true) true Try.f6.params.toList args.toList ds p := hA0
  rw [Try.params6] at hA hval
  obtain ⟨v0, v1, d0, d1, p0, p1, rfl, rfl, rfl, h0, h1⟩ := trodAll_two hA
  obtain ⟨l, hl⟩ := open_steps (hval 0 22 v0 rfl rfl) h0
  obtain ⟨y, rfl, yo⟩ := (open_u8 rfl) (hval 1 5 v1 rfl rfl) h1
  clear hA0 hval0
  refine (again_law (hp W) l v0 y hl yo).below.mono fun e W' ⟨hb, v, R', h', he, hv⟩ => ?_
  subst he; subst hv
  exact ⟨_, rfl, post_true (tb := 4) laid_ (of_decide_eq_true (by kernel_rfl)) rfl rfl rfl rfl rfl rfl hW' hb⟩
theorem lockAgain_holds : Rows.LockAgainSaid :=
  OpenClaim.holds_of_wide 6 Try.f6 rfl rfl rfl rfl rfl rfl rfl ⟨rfl, rfl, rfl, rfl, rfl⟩ rfl rfl rfl rfl rfl (by kernel_rfl) Try.func6 (by kernel_rfl)
    (of_decide_eq_true (by kernel_rfl)) (by unfold Func.isWrapper; first | (rw [if_pos (by decide +kernel)]; kernel_rfl) | (rw [if_neg (by decide +kernel)]; exact ⟨rfl, rfl⟩))
    (fun os started H enc _ => lockAgain_lifted os started H enc)
end Go.Proofs.Ytgbcdjofkfdgnaa
