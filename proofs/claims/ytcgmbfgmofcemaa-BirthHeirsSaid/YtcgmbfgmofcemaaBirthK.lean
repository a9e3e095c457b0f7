/- Births: the row on heirs. -/
import Derived.Test.YtcgmbfgmofcemaaBirthJ
import Derived.Test.YtcgmbfgmofcemaaRowB
namespace Go.Proofs.Ytcgmbfgmofcemaa
set_option maxRecDepth 4000
open Go Go.Par PH Go.ChangeShapes Go.WideShapes Go.ChangeAt Go.RowKit
abbrev zeroAcl : List Value := [.int .u8 0, .int .u8 0, .int .u8 0, .slice none 0 0, .slice none 0 0, .bool false, .int .u8 0]
abbrev zeroAttr : Value := .agg #[.int .u8 0, .int .u16 0, .int .u16 0, .int .u8 0, .int .u8 0, .int .u8 0, .slice none 0 0, .slice none 0 0, .bool false, .int .u8 0, .bool false, .int .u8 0, .int .u8 0, .int .u8 0, .slice none 0 0, .slice none 0 0, .bool false, .int .u8 0, .slice none 0 0]
set_option maxRecDepth 100000 in
theorem birthHeirs_lifted (os : Os) (started : os.Started) (H : Type) (enc : TypeId × Value → H) :
    ReturnsInHanded {} Try.checked os 5 .any (Rows.birthHeirsSpec.pre6 enc Try.prog Try.f5 Rows.birthHeirsRow.domain false) (Rows.birthHeirsSpec.post enc Try.prog Try.f5 false true false false) := by
  refine returnsInHanded_of_change_sized (C := Try.checked) own_ started (by kernel_rfl) Try.func5
    (ChangeSpec.witness6 (enc := enc) (C := Try.checked) false ⟨#[], #[.slice none 0 0, .int .u16 0, .int .u16 0, zeroAttr, .slice none 0 0], []⟩ 8 (by kernel_rfl) (by kernel_rfl) (by kernel_rfl) (by kernel_rfl)) ?_
  intro W base args ds gs before hval0 hW hcnd hwt _
  have hval : ∀ (j : Nat) t v, Try.f5.params[j]? = some t → args[j]? = some v → Value.okWide Try.prog W .any base t v := hval0
  have hW' := hW
  obtain ⟨p, q, hA0, hV, rfl, hfz, hnd⟩ := hW
  have hA : DataW.TrodAll enc Try.prog W 0 (fun _ => true) true Try.f5.params.toList args.toList ds p := hA0
  rw [Try.params5] at hA hval
  obtain ⟨v0, v1, v2, v3, v4, d0, d1, d2, d3, d4, p0, p1, p2, p3, p4, rfl, rfl, rfl, h0, h1, h2, h3, h4⟩ := trodAll_five hA
  obtain ⟨l, hl, hlo⟩ := open_creds (hval 0 43 v0 rfl rfl) h0 (fun k hk => of_decide_eq_true (List.all_eq_true.1 hwt k (weightsEach_mem (i := 0) rfl rfl hk)))
  obtain ⟨um, rfl, hu⟩ := (open_u16 rfl) (hval 1 22 v1 rfl rfl) h1
  obtain ⟨ot, rfl, ho⟩ := (open_u16 rfl) (hval 2 22 v2 rfl rfl) h2
  obtain ⟨p, hv, hok, hw⟩ := open_attrS (hval 3 31 v3 rfl rfl) h3 (fun k hk => of_decide_eq_true (List.all_eq_true.1 hwt k (weightsEach_mem (i := 3) rfl rfl hk)))
  obtain ⟨ms, hms, hmo⟩ := open_us (hval 4 23 v4 rfl rfl) h4
  clear hA0 hval0
  refine (heirs_law (hp W) v0 v3 v4 l um ot p ms hl hlo hv hok hw hms hmo hu ho).below.mono fun e W' ⟨hb, v, R', h', he, hv⟩ => ?_
  subst he; subst hv
  exact ⟨_, rfl, post_true (tb := 4) laid_ (of_decide_eq_true (by kernel_rfl)) rfl rfl rfl rfl rfl rfl hW' hb⟩
theorem birthHeirs_holds : Rows.BirthHeirsSaid :=
  OpenClaim.holds_of_wide 5 Try.f5 rfl rfl rfl rfl rfl rfl rfl ⟨rfl, rfl, rfl, rfl, rfl⟩ rfl rfl rfl rfl rfl (by kernel_rfl) Try.func5 (by kernel_rfl)
    (of_decide_eq_true (by kernel_rfl)) (by unfold Func.isWrapper; first | (rw [if_pos (by decide +kernel)]; kernel_rfl) | (rw [if_neg (by decide +kernel)]; exact ⟨rfl, rfl⟩))
    (fun os started H enc _ => birthHeirs_lifted os started H enc)
end Go.Proofs.Ytcgmbfgmofcemaa
