/- Locks: the row on what no table answers. -/
import Derived.Test.YtgbcdjofkfdgnaaLockH
import Derived.Test.YtgbcdjofkfdgnaaOpen
import Derived.Test.YtgbcdjofkfdgnaaRows
import Derived.Test.YtgbcdjofkfdgnaaChecked
namespace Go.Proofs.Ytgbcdjofkfdgnaa
open Go Go.Par Go.ChangeShapes Go.WideShapes Go.ChangeAt Go.RowKit
theorem own_ : ownKnob Try.prog.godebug = none := by kernel_rfl
theorem laid_ : laidOutB Try.prog = true := by kernel_rfl
def i64 (x : Int) : Prop := -9223372036854775808 ≤ x ∧ x ≤ 9223372036854775807
theorem open_i64 {H : Type} {enc : TypeId × Value → H} {W : World} {r : Reach} {base : Nat} {sp : Nat → Bool} {held : Bool} {v : Value} {d : DataW H} {ps : List MemPlace} {t : TypeId} (ht : Try.prog.underlying t = some (.int .i64)) (hval : Value.okWide Try.prog W r base t v)
    (hd : DataW.Trod enc Try.prog W 0 sp held t v d ps) : ∃ n, v = .int .i64 n ∧ i64 n := by
  obtain ⟨n, rfl, _, _, hw⟩ := ChangeShapes.open_int (k := .i64) ht hval hd
  refine ⟨n, rfl, ?_⟩
  have hw : (decide ((-9223372036854775808 : Int) ≤ n) && decide (n ≤ 9223372036854775807)) = true := hw
  simp only [Bool.and_eq_true, decide_eq_true_eq] at hw
  exact hw
set_option maxRecDepth 100000 in
theorem lockNil_lifted (os : Os) (started : os.Started) (H : Type) (enc : TypeId × Value → H) :
    ReturnsInHanded {} Try.checked os 7 .any (Rows.lockNilSpec.pre6 enc Try.prog Try.f7 Rows.lockNilRow.domain false) (Rows.lockNilSpec.post enc Try.prog Try.f7 false true false false) := by
  refine returnsInHanded_of_change (C := Try.checked) own_ started (by kernel_rfl) Try.func7
    (ChangeSpec.witness6 (enc := enc) (C := Try.checked) false ⟨#[], #[.int .i64 0, .int .i64 0], []⟩ 8 (by kernel_rfl) (by kernel_rfl) (by kernel_rfl) (by kernel_rfl)) ?_
  intro W base args ds gs before hval0 hW hcnd _
  have hval : ∀ (j : Nat) t v, Try.f7.params[j]? = some t → args[j]? = some v → Value.okWide Try.prog W .any base t v := hval0
  have hW' := hW
  obtain ⟨p, q, hA0, hV, rfl, hfz, hnd⟩ := hW
  have hA : DataW.TrodAll enc Try.prog W 0 (fun _ => true) true Try.f7.params.toList args.toList ds p := hA0
  rw [Try.params7] at hA hval
  obtain ⟨v0, v1, d0, d1, p0, p1, rfl, rfl, rfl, h0, h1⟩ := trodAll_two hA
  obtain ⟨p, rfl, po⟩ := (open_i64 rfl) (hval 0 3 v0 rfl rfl) h0
  obtain ⟨id, rfl, io⟩ := (open_i64 rfl) (hval 1 3 v1 rfl rfl) h1
  clear hA0 hval0
  refine (nil_law (hp W) p id).below.mono fun e W' ⟨hb, v, R', h', he, hv⟩ => ?_
  subst he; subst hv
  exact ⟨_, rfl, post_true (tb := 4) laid_ (of_decide_eq_true (by kernel_rfl)) rfl rfl rfl rfl rfl rfl hW' hb⟩
theorem lockNil_holds : Rows.LockNilSaid :=
  OpenClaim.holds_of_wide 7 Try.f7 rfl rfl rfl rfl rfl rfl rfl ⟨rfl, rfl, rfl, rfl, rfl⟩ rfl rfl rfl rfl rfl (by kernel_rfl) Try.func7 (by kernel_rfl)
    (of_decide_eq_true (by kernel_rfl)) (by unfold Func.isWrapper; first | (rw [if_pos (by decide +kernel)]; kernel_rfl) | (rw [if_neg (by decide +kernel)]; exact ⟨rfl, rfl⟩))
    (fun os started H enc _ => lockNil_lifted os started H enc)
end Go.Proofs.Ytgbcdjofkfdgnaa
