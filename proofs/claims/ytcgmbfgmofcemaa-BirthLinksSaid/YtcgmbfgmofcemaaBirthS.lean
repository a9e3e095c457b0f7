/- What is begun: the rows on less, on the set bits, and on links. -/
import Derived.Test.YtcgmbfgmofcemaaBirthR
import Derived.Test.YtcgmbfgmofcemaaBirthG
namespace Go.Proofs.Ytcgmbfgmofcemaa
open Go Go.Par PH Go.ChangeShapes Go.WideShapes Go.ChangeAt Go.RowKit
set_option maxRecDepth 100000 in
theorem birthLess_lifted (os : Os) (started : os.Started) (H : Type) (enc : TypeId × Value → H) :
    ReturnsInHanded {} Try.checked os 4 .any (Rows.birthLessSpec.pre6 enc Try.prog Try.f4 Rows.birthLessRow.domain false) (Rows.birthLessSpec.post enc Try.prog Try.f4 false true false false) := by
  refine returnsInHanded_of_change (C := Try.checked) own_ started (by kernel_rfl) Try.func4
    (ChangeSpec.witness6 (enc := enc) (C := Try.checked) false ⟨#[], #[zeroCred, .int .u16 0, zeroAttr, .bool false, .int .u16 0], []⟩ 8 (by kernel_rfl) (by kernel_rfl) (by kernel_rfl) (by kernel_rfl)) ?_
  intro W base args ds gs before hval0 hW hcnd _
  have hval : ∀ (j : Nat) t v, Try.f4.params[j]? = some t → args[j]? = some v → Value.okWide Try.prog W .any base t v := hval0
  have hW' := hW
  obtain ⟨p, q, hA0, hV, rfl, hfz, hnd⟩ := hW
  have hA : DataW.TrodAll enc Try.prog W 0 (fun _ => true) true Try.f4.params.toList args.toList ds p := hA0
  rw [Try.params4] at hA hval
  obtain ⟨v0, v1, v2, v3, v4, d0, d1, d2, d3, d4, p0, p1, p2, p3, p4, rfl, rfl, rfl, h0, h1, h2, h3, h4⟩ := trodAll_five hA
  obtain ⟨c, hc, okc⟩ := open_cred (hval 0 25 v0 rfl rfl) h0
  obtain ⟨um, rfl, hu⟩ := (open_u16 rfl) (hval 1 22 v1 rfl rfl) h1
  obtain ⟨p, hv, okp⟩ := open_attr (hval 2 31 v2 rfl rfl) h2
  obtain ⟨dr, rfl⟩ := (open_bool1 rfl) (hval 3 4 v3 rfl rfl) h3
  obtain ⟨md, rfl, hm⟩ := (open_u16 rfl) (hval 4 22 v4 rfl rfl) h4
  clear hA0 hval0
  refine (less_law (hp W) c v0 um p v2 dr md hc hv okc okp hu hm).below.mono fun e W' ⟨hb, v, R', h', he, hv⟩ => ?_
  subst he; subst hv
  exact ⟨_, rfl, post_true (tb := 4) laid_ (of_decide_eq_true (by kernel_rfl)) rfl rfl rfl rfl rfl rfl hW' hb⟩
theorem birthLess_holds : Rows.BirthLessSaid :=
  OpenClaim.holds_of_wide 4 Try.f4 rfl rfl rfl rfl rfl rfl rfl ⟨rfl, rfl, rfl, rfl, rfl⟩ rfl rfl rfl rfl rfl (by kernel_rfl) Try.func4 (by kernel_rfl)
    (of_decide_eq_true (by kernel_rfl)) (by unfold Func.isWrapper; first | (rw [if_pos (by decide +kernel)]; kernel_rfl) | (rw [if_neg (by decide +kernel)]; exact ⟨rfl, rfl⟩))
    (fun os started H enc _ => birthLess_lifted os started H enc)
set_option maxRecDepth 100000 in
theorem birthSet_lifted (os : Os) (started : os.Started) (H : Type) (enc : TypeId × Value → H) :
    ReturnsInHanded {} Try.checked os 6 .any (Rows.birthSetSpec.pre6 enc Try.prog Try.f6 Rows.birthSetRow.domain false) (Rows.birthSetSpec.post enc Try.prog Try.f6 false true false false) := by
  refine returnsInHanded_of_change (C := Try.checked) own_ started (by kernel_rfl) Try.func6
    (ChangeSpec.witness6 (enc := enc) (C := Try.checked) false ⟨#[], #[zeroCred, zeroAttr, .int .u16 0], []⟩ 8 (by kernel_rfl) (by kernel_rfl) (by kernel_rfl) (by kernel_rfl)) ?_
  intro W base args ds gs before hval0 hW hcnd _
  have hval : ∀ (j : Nat) t v, Try.f6.params[j]? = some t → args[j]? = some v → Value.okWide Try.prog W .any base t v := hval0
  have hW' := hW
  obtain ⟨p, q, hA0, hV, rfl, hfz, hnd⟩ := hW
  have hA : DataW.TrodAll enc Try.prog W 0 (fun _ => true) true Try.f6.params.toList args.toList ds p := hA0
  rw [Try.params6] at hA hval
  obtain ⟨v0, v1, v2, d0, d1, d2, p0, p1, p2, rfl, rfl, rfl, h0, h1, h2⟩ := trodAll_three hA
  obtain ⟨c, hc, okc⟩ := open_cred (hval 0 25 v0 rfl rfl) h0
  obtain ⟨p, hv, okp⟩ := open_attr (hval 1 31 v1 rfl rfl) h1
  obtain ⟨md, rfl, hm⟩ := (open_u16 rfl) (hval 2 22 v2 rfl rfl) h2
  clear hA0 hval0
  refine (set_law (hp W) c v0 p v1 md hc hv okc okp hm).below.mono fun e W' ⟨hb, v, R', h', he, hv⟩ => ?_
  subst he; subst hv
  exact ⟨_, rfl, post_true (tb := 4) laid_ (of_decide_eq_true (by kernel_rfl)) rfl rfl rfl rfl rfl rfl hW' hb⟩
theorem birthSet_holds : Rows.BirthSetSaid :=
  OpenClaim.holds_of_wide 6 Try.f6 rfl rfl rfl rfl rfl rfl rfl ⟨rfl, rfl, rfl, rfl, rfl⟩ rfl rfl rfl rfl rfl (by kernel_rfl) Try.func6 (by kernel_rfl)
    (of_decide_eq_true (by kernel_rfl)) (by unfold Func.isWrapper; first | (rw [if_pos (by decide +kernel)]; kernel_rfl) | (rw [if_neg (by decide +kernel)]; exact ⟨rfl, rfl⟩))
    (fun os started H enc _ => birthSet_lifted os started H enc)
set_option maxRecDepth 100000 in
theorem birthLinks_lifted (os : Os) (started : os.Started) (H : Type) (enc : TypeId × Value → H) :
    ReturnsInHanded {} Try.checked os 7 .any (Rows.birthLinksSpec.pre6 enc Try.prog Try.f7 Rows.birthLinksRow.domain false) (Rows.birthLinksSpec.post enc Try.prog Try.f7 false true false false) := by
  refine returnsInHanded_of_change (C := Try.checked) own_ started (by kernel_rfl) Try.func7
    (ChangeSpec.witness6 (enc := enc) (C := Try.checked) false ⟨#[], #[zeroCred, .int .u16 0, .int .u16 0, zeroAttr, .int .u16 0, .int .u16 0], []⟩ 8 (by kernel_rfl) (by kernel_rfl) (by kernel_rfl) (by kernel_rfl)) ?_
  intro W base args ds gs before hval0 hW hcnd _
  have hval : ∀ (j : Nat) t v, Try.f7.params[j]? = some t → args[j]? = some v → Value.okWide Try.prog W .any base t v := hval0
  have hW' := hW
  obtain ⟨p, q, hA0, hV, rfl, hfz, hnd⟩ := hW
  have hA : DataW.TrodAll enc Try.prog W 0 (fun _ => true) true Try.f7.params.toList args.toList ds p := hA0
  rw [Try.params7] at hA hval
  obtain ⟨v0, v1, v2, v3, v4, v5, d0, d1, d2, d3, d4, d5, p0, p1, p2, p3, p4, p5, rfl, rfl, rfl, h0, h1, h2, h3, h4, h5⟩ := trodAll_six hA
  obtain ⟨c, hc, okc⟩ := open_cred (hval 0 25 v0 rfl rfl) h0
  obtain ⟨um, rfl, hu⟩ := (open_u16 rfl) (hval 1 22 v1 rfl rfl) h1
  obtain ⟨ot, rfl, ho⟩ := (open_u16 rfl) (hval 2 22 v2 rfl rfl) h2
  obtain ⟨p, hv, okp⟩ := open_attr (hval 3 31 v3 rfl rfl) h3
  obtain ⟨md, rfl, hm⟩ := (open_u16 rfl) (hval 4 22 v4 rfl rfl) h4
  obtain ⟨mo, rfl, hmo⟩ := (open_u16 rfl) (hval 5 22 v5 rfl rfl) h5
  clear hA0 hval0
  refine (links_law (hp W) c v0 um ot p v3 md mo hc hv okc okp hu ho hm hmo).below.mono fun e W' ⟨hb, v, R', h', he, hv⟩ => ?_
  subst he; subst hv
  exact ⟨_, rfl, post_true (tb := 4) laid_ (of_decide_eq_true (by kernel_rfl)) rfl rfl rfl rfl rfl rfl hW' hb⟩
theorem birthLinks_holds : Rows.BirthLinksSaid :=
  OpenClaim.holds_of_wide 7 Try.f7 rfl rfl rfl rfl rfl rfl rfl ⟨rfl, rfl, rfl, rfl, rfl⟩ rfl rfl rfl rfl rfl (by kernel_rfl) Try.func7 (by kernel_rfl)
    (of_decide_eq_true (by kernel_rfl)) (by unfold Func.isWrapper; first | (rw [if_pos (by decide +kernel)]; kernel_rfl) | (rw [if_neg (by decide +kernel)]; exact ⟨rfl, rfl⟩))
    (fun os started H enc _ => birthLinks_lifted os started H enc)
end Go.Proofs.Ytcgmbfgmofcemaa
