/- What is begun: the row on all of it. -/
import Derived.Test.YtcgmbfgmofcemaaBirthF
import Derived.Test.YtcgmbfgmofcemaaAttrO
import Derived.Test.YtcgmbfgmofcemaaRowB
namespace Go.Proofs.Ytcgmbfgmofcemaa
open Go Go.Par PH Go.ChangeShapes Go.WideShapes Go.ChangeAt Go.RowKit
abbrev zeroAcl : List Value := [.int .u8 0, .int .u8 0, .int .u8 0, .slice none 0 0, .slice none 0 0, .bool false, .int .u8 0]
abbrev zeroAttr : Value := .agg #[.int .u8 0, .int .u16 0, .int .u16 0, .int .u8 0, .int .u8 0, .int .u8 0, .slice none 0 0, .slice none 0 0, .bool false, .int .u8 0, .bool false, .int .u8 0, .int .u8 0, .int .u8 0, .slice none 0 0, .slice none 0 0, .bool false, .int .u8 0, .slice none 0 0]
abbrev zeroCred : Value := .agg #[.int .u16 0, .int .u16 0, .slice none 0 0, .bool false]
set_option maxRecDepth 100000 in
theorem birthNew_lifted (os : Os) (started : os.Started) (H : Type) (enc : TypeId × Value → H) :
    ReturnsInHanded {} Try.checked os 3 .any (Rows.birthNewSpec.pre6 enc Try.prog Try.f3 Rows.birthNewRow.domain false) (Rows.birthNewSpec.post enc Try.prog Try.f3 false true false false) := by
  refine returnsInHanded_of_change (C := Try.checked) own_ started (by kernel_rfl) Try.func3
    (ChangeSpec.witness6 (enc := enc) (C := Try.checked) false ⟨#[], #[zeroCred, .int .u16 0, zeroAttr, .int .u8 0, .int .u16 0], []⟩ 8 (by kernel_rfl) (by kernel_rfl) (by kernel_rfl) (by kernel_rfl)) ?_
  intro W base args ds gs before hval0 hW hcnd _
  have hval : ∀ (j : Nat) t v, Try.f3.params[j]? = some t → args[j]? = some v → Value.okWide Try.prog W .any base t v := hval0
  have hW' := hW
  obtain ⟨p, q, hA0, hV, rfl, hfz, hnd⟩ := hW
  have hA : DataW.TrodAll enc Try.prog W 0 (fun _ => true) true Try.f3.params.toList args.toList ds p := hA0
  rw [Try.params3] at hA hval
  obtain ⟨v0, v1, v2, v3, v4, d0, d1, d2, d3, d4, p0, p1, p2, p3, p4, rfl, rfl, rfl, h0, h1, h2, h3, h4⟩ := trodAll_five hA
  obtain ⟨c, hc, okc⟩ := open_cred (hval 0 25 v0 rfl rfl) h0
  obtain ⟨um, rfl, hu⟩ := (open_u16 rfl) (hval 1 22 v1 rfl rfl) h1
  obtain ⟨p, hv, okp⟩ := open_attr (hval 2 31 v2 rfl rfl) h2
  obtain ⟨kd, rfl, hk⟩ := (open_u8 rfl) (hval 3 5 v3 rfl rfl) h3
  obtain ⟨md, rfl, hm⟩ := (open_u16 rfl) (hval 4 22 v4 rfl rfl) h4
  clear hA0 hval0
  refine (new_law (hp W) c v0 um p v2 kd md hc hv okp hu hm).below.mono fun e W' ⟨hb, v, R', h', he, hv⟩ => ?_
  subst he; subst hv
  exact ⟨_, rfl, post_true (tb := 4) laid_ (of_decide_eq_true (by kernel_rfl)) rfl rfl rfl rfl rfl rfl hW' hb⟩
theorem birthNew_holds : Rows.BirthNewSaid :=
  OpenClaim.holds_of_wide 3 Try.f3 rfl rfl rfl rfl rfl rfl rfl ⟨rfl, rfl, rfl, rfl, rfl⟩ rfl rfl rfl rfl rfl (by kernel_rfl) Try.func3 (by kernel_rfl)
    (of_decide_eq_true (by kernel_rfl)) (by unfold Func.isWrapper; first | (rw [if_pos (by decide +kernel)]; kernel_rfl) | (rw [if_neg (by decide +kernel)]; exact ⟨rfl, rfl⟩))
    (fun os started H enc _ => birthNew_lifted os started H enc)
end Go.Proofs.Ytcgmbfgmofcemaa
