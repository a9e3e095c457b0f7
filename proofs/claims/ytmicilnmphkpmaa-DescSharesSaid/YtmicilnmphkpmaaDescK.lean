/- Open files: the row on what no table answers. -/
import Derived.Test.YtmicilnmphkpmaaDescJ
import Derived.Test.YtmicilnmphkpmaaRows
import Derived.Test.YtmicilnmphkpmaaChecked
namespace Go.Proofs.Ytmicilnmphkpmaa
open Go Go.Par Go.ChangeShapes Go.WideShapes Go.ChangeAt Go.RowKit
theorem own_ : ownKnob Try.prog.godebug = none := by kernel_rfl
theorem laid_ : laidOutB Try.prog = true := by kernel_rfl
def zeroFV : Value := .agg #[.bool false, .int .i64 0, .int .u32 0, .bool false, .int .u8 0, .int .i64 0]
set_option maxRecDepth 100000 in
theorem descNil_lifted (os : Os) (started : os.Started) (H : Type) (enc : TypeId × Value → H) :
    ReturnsInHanded {} Try.checked os 6 .any (Rows.descNilSpec.pre6 enc Try.prog Try.f6 Rows.descNilRow.domain false) (Rows.descNilSpec.post enc Try.prog Try.f6 false true false false) := by
  refine returnsInHanded_of_change (C := Try.checked) own_ started (by kernel_rfl) Try.func6
    (ChangeSpec.witness6 (enc := enc) (C := Try.checked) false ⟨#[], #[zeroFV, .int .i64 0, .int .i64 0], []⟩ 8 (by kernel_rfl) (by kernel_rfl) (by kernel_rfl) (by kernel_rfl)) ?_
  intro W base args ds gs before hval0 hW hcnd _
  have hval : ∀ (j : Nat) t v, Try.f6.params[j]? = some t → args[j]? = some v → Value.okWide Try.prog W .any base t v := hval0
  have hW' := hW
  obtain ⟨p, q, hA0, hV, rfl, hfz, hnd⟩ := hW
  have hA : DataW.TrodAll enc Try.prog W 0 (fun _ => true) true Try.f6.params.toList args.toList ds p := hA0
  rw [Try.params6] at hA hval
  obtain ⟨v0, v1, v2, d0, d1, d2, p0, p1, p2, rfl, rfl, rfl, h0, h1, h2⟩ := trodAll_three hA
  obtain ⟨f, rfl, fo⟩ := open_file (hval 0 33 v0 rfl rfl) h0
  obtain ⟨fd, rfl, fdo⟩ := (open_i64 rfl) (hval 1 3 v1 rfl rfl) h1
  obtain ⟨off, rfl, offo⟩ := (open_i64 rfl) (hval 2 2 v2 rfl rfl) h2
  clear hA0 hval0
  refine (nil_law (hp W) f fd off).below.mono fun e W' ⟨hb, v, R', h', he, hv⟩ => ?_
  subst he; subst hv
  exact ⟨_, rfl, post_true (tb := 4) laid_ (of_decide_eq_true (by kernel_rfl)) rfl rfl rfl rfl rfl rfl hW' hb⟩
theorem descNil_holds : Rows.DescNilSaid :=
  OpenClaim.holds_of_wide 6 Try.f6 rfl rfl rfl rfl rfl rfl rfl ⟨rfl, rfl, rfl, rfl, rfl⟩ rfl rfl rfl rfl rfl (by kernel_rfl) Try.func6 (by kernel_rfl)
    (of_decide_eq_true (by kernel_rfl)) (by unfold Func.isWrapper; first | (rw [if_pos (by decide +kernel)]; kernel_rfl) | (rw [if_neg (by decide +kernel)]; exact ⟨rfl, rfl⟩))
    (fun os started H enc _ => descNil_lifted os started H enc)
end Go.Proofs.Ytmicilnmphkpmaa
