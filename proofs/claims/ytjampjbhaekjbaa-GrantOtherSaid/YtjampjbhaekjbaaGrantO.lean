/- Who may do what: the rows. -/
import Derived.Test.YtjampjbhaekjbaaGrantK
import Derived.Test.YtjampjbhaekjbaaGrantL
import Derived.Test.YtjampjbhaekjbaaGrantM
import Derived.Test.YtjampjbhaekjbaaGrantN
import Derived.Test.YtjampjbhaekjbaaAttrO
import Derived.Test.YtjampjbhaekjbaaRowB
namespace Go.Proofs.Ytjampjbhaekjbaa
open Go Go.Par PH Go.ChangeShapes Go.WideShapes Go.ChangeAt Go.RowKit
abbrev zeroAttr : Value := .agg #[.int .u8 0, .int .u16 0, .int .u16 0, .int .u8 0, .int .u8 0, .int .u8 0, .slice none 0 0, .slice none 0 0, .bool false, .int .u8 0, .bool false, .int .u8 0, .int .u8 0, .int .u8 0, .slice none 0 0, .slice none 0 0, .bool false, .int .u8 0, .slice none 0 0]
abbrev zeroCred : Value := .agg #[.int .u16 0, .int .u16 0, .slice none 0 0, .bool false]
set_option maxRecDepth 100000 in
theorem grantTells_lifted (os : Os) (started : os.Started) (H : Type) (enc : TypeId × Value → H) :
    ReturnsInHanded {} Try.checked os 3 .any (Rows.grantTellsSpec.pre6 enc Try.prog Try.f3 Rows.grantTellsRow.domain false) (Rows.grantTellsSpec.post enc Try.prog Try.f3 false true false false) := by
  refine returnsInHanded_of_change (C := Try.checked) own_ started (by kernel_rfl) Try.func3
    (ChangeSpec.witness6 (enc := enc) (C := Try.checked) false ⟨#[], #[zeroCred, zeroAttr, .bool false, .int .u8 0, .int .u16 0], []⟩ 8 (by kernel_rfl) (by kernel_rfl) (by kernel_rfl) (by kernel_rfl)) ?_
  intro W base args ds gs before hval0 hW hcnd _
  have hval : ∀ (j : Nat) t v, Try.f3.params[j]? = some t → args[j]? = some v → Value.okWide Try.prog W .any base t v := hval0
  have hW' := hW
  obtain ⟨p, q, hA0, hV, rfl, hfz, hnd⟩ := hW
  have hA : DataW.TrodAll enc Try.prog W 0 (fun _ => true) true Try.f3.params.toList args.toList ds p := hA0
  rw [Try.params3] at hA hval
  obtain ⟨v0, v1, v2, v3, v4, d0, d1, d2, d3, d4, p0, p1, p2, p3, p4, rfl, rfl, rfl, h0, h1, h2, h3, h4⟩ := trodAll_five hA
  obtain ⟨c, hc, okc⟩ := open_cred (hval 0 25 v0 rfl rfl) h0
  obtain ⟨a, hv, oka⟩ := open_attr (hval 1 31 v1 rfl rfl) h1
  obtain ⟨dr, rfl⟩ := (open_bool1 rfl) (hval 2 4 v2 rfl rfl) h2
  obtain ⟨wt, rfl, hwt⟩ := (open_u8 rfl) (hval 3 5 v3 rfl rfl) h3
  obtain ⟨gd, rfl, hgd⟩ := (open_u16 rfl) (hval 4 22 v4 rfl rfl) h4
  clear hA0 hval0
  refine (tells_law (hp W) c v0 a v1 dr wt gd hc hv oka hwt).below.mono fun e W' ⟨hb, v, R', h', he, hv⟩ => ?_
  subst he; subst hv
  exact ⟨_, rfl, post_true (tb := 4) laid_ (of_decide_eq_true (by kernel_rfl)) rfl rfl rfl rfl rfl rfl hW' hb⟩
theorem grantTells_holds : Rows.GrantTellsSaid :=
  OpenClaim.holds_of_wide 3 Try.f3 rfl rfl rfl rfl rfl rfl rfl ⟨rfl, rfl, rfl, rfl, rfl⟩ rfl rfl rfl rfl rfl (by kernel_rfl) Try.func3 (by kernel_rfl)
    (of_decide_eq_true (by kernel_rfl)) (by unfold Func.isWrapper; first | (rw [if_pos (by decide +kernel)]; kernel_rfl) | (rw [if_neg (by decide +kernel)]; exact ⟨rfl, rfl⟩))
    (fun os started H enc _ => grantTells_lifted os started H enc)
set_option maxRecDepth 100000 in
theorem grantLess_lifted (os : Os) (started : os.Started) (H : Type) (enc : TypeId × Value → H) :
    ReturnsInHanded {} Try.checked os 4 .any (Rows.grantLessSpec.pre6 enc Try.prog Try.f4 Rows.grantLessRow.domain false) (Rows.grantLessSpec.post enc Try.prog Try.f4 false true false false) := by
  refine returnsInHanded_of_change (C := Try.checked) own_ started (by kernel_rfl) Try.func4
    (ChangeSpec.witness6 (enc := enc) (C := Try.checked) false ⟨#[], #[zeroCred, zeroAttr, .bool false, .int .u8 0, .int .u8 0], []⟩ 8 (by kernel_rfl) (by kernel_rfl) (by kernel_rfl) (by kernel_rfl)) ?_
  intro W base args ds gs before hval0 hW hcnd _
  have hval : ∀ (j : Nat) t v, Try.f4.params[j]? = some t → args[j]? = some v → Value.okWide Try.prog W .any base t v := hval0
  have hW' := hW
  obtain ⟨p, q, hA0, hV, rfl, hfz, hnd⟩ := hW
  have hA : DataW.TrodAll enc Try.prog W 0 (fun _ => true) true Try.f4.params.toList args.toList ds p := hA0
  rw [Try.params4] at hA hval
  obtain ⟨v0, v1, v2, v3, v4, d0, d1, d2, d3, d4, p0, p1, p2, p3, p4, rfl, rfl, rfl, h0, h1, h2, h3, h4⟩ := trodAll_five hA
  obtain ⟨c, hc, okc⟩ := open_cred (hval 0 25 v0 rfl rfl) h0
  obtain ⟨a, hv, oka⟩ := open_attr (hval 1 31 v1 rfl rfl) h1
  obtain ⟨dr, rfl⟩ := (open_bool1 rfl) (hval 2 4 v2 rfl rfl) h2
  obtain ⟨wt, rfl, hwt⟩ := (open_u8 rfl) (hval 3 5 v3 rfl rfl) h3
  obtain ⟨ls, rfl, hls⟩ := (open_u8 rfl) (hval 4 5 v4 rfl rfl) h4
  clear hA0 hval0
  refine (less_law (hp W) c v0 a v1 dr wt ls hc hv oka hwt hls).below.mono fun e W' ⟨hb, v, R', h', he, hv⟩ => ?_
  subst he; subst hv
  exact ⟨_, rfl, post_true (tb := 4) laid_ (of_decide_eq_true (by kernel_rfl)) rfl rfl rfl rfl rfl rfl hW' hb⟩
theorem grantLess_holds : Rows.GrantLessSaid :=
  OpenClaim.holds_of_wide 4 Try.f4 rfl rfl rfl rfl rfl rfl rfl ⟨rfl, rfl, rfl, rfl, rfl⟩ rfl rfl rfl rfl rfl (by kernel_rfl) Try.func4 (by kernel_rfl)
    (of_decide_eq_true (by kernel_rfl)) (by unfold Func.isWrapper; first | (rw [if_pos (by decide +kernel)]; kernel_rfl) | (rw [if_neg (by decide +kernel)]; exact ⟨rfl, rfl⟩))
    (fun os started H enc _ => grantLess_lifted os started H enc)
set_option maxRecDepth 100000 in
theorem grantClass_lifted (os : Os) (started : os.Started) (H : Type) (enc : TypeId × Value → H) :
    ReturnsInHanded {} Try.checked os 5 .any (Rows.grantClassSpec.pre6 enc Try.prog Try.f5 Rows.grantClassRow.domain false) (Rows.grantClassSpec.post enc Try.prog Try.f5 false true false false) := by
  refine returnsInHanded_of_change (C := Try.checked) own_ started (by kernel_rfl) Try.func5
    (ChangeSpec.witness6 (enc := enc) (C := Try.checked) false ⟨#[], #[zeroCred, zeroAttr, .bool false, .int .u8 0], []⟩ 8 (by kernel_rfl) (by kernel_rfl) (by kernel_rfl) (by kernel_rfl)) ?_
  intro W base args ds gs before hval0 hW hcnd _
  have hval : ∀ (j : Nat) t v, Try.f5.params[j]? = some t → args[j]? = some v → Value.okWide Try.prog W .any base t v := hval0
  have hW' := hW
  obtain ⟨p, q, hA0, hV, rfl, hfz, hnd⟩ := hW
  have hA : DataW.TrodAll enc Try.prog W 0 (fun _ => true) true Try.f5.params.toList args.toList ds p := hA0
  rw [Try.params5] at hA hval
  obtain ⟨v0, v1, v2, v3, d0, d1, d2, d3, p0, p1, p2, p3, rfl, rfl, rfl, h0, h1, h2, h3⟩ := trodAll_four hA
  obtain ⟨c, hc, okc⟩ := open_cred (hval 0 25 v0 rfl rfl) h0
  obtain ⟨a, hv, oka⟩ := open_attr (hval 1 31 v1 rfl rfl) h1
  obtain ⟨dr, rfl⟩ := (open_bool1 rfl) (hval 2 4 v2 rfl rfl) h2
  obtain ⟨wt, rfl, hwt⟩ := (open_u8 rfl) (hval 3 5 v3 rfl rfl) h3
  clear hA0 hval0
  refine (class_law (hp W) c v0 a v1 dr wt hc hv oka hwt).below.mono fun e W' ⟨hb, v, R', h', he, hv⟩ => ?_
  subst he; subst hv
  exact ⟨_, rfl, post_true (tb := 4) laid_ (of_decide_eq_true (by kernel_rfl)) rfl rfl rfl rfl rfl rfl hW' hb⟩
theorem grantClass_holds : Rows.GrantClassSaid :=
  OpenClaim.holds_of_wide 5 Try.f5 rfl rfl rfl rfl rfl rfl rfl ⟨rfl, rfl, rfl, rfl, rfl⟩ rfl rfl rfl rfl rfl (by kernel_rfl) Try.func5 (by kernel_rfl)
    (of_decide_eq_true (by kernel_rfl)) (by unfold Func.isWrapper; first | (rw [if_pos (by decide +kernel)]; kernel_rfl) | (rw [if_neg (by decide +kernel)]; exact ⟨rfl, rfl⟩))
    (fun os started H enc _ => grantClass_lifted os started H enc)
set_option maxRecDepth 100000 in
theorem grantGroups_lifted (os : Os) (started : os.Started) (H : Type) (enc : TypeId × Value → H) :
    ReturnsInHanded {} Try.checked os 6 .any (Rows.grantGroupsSpec.pre6 enc Try.prog Try.f6 Rows.grantGroupsRow.domain false) (Rows.grantGroupsSpec.post enc Try.prog Try.f6 false true false false) := by
  refine returnsInHanded_of_change (C := Try.checked) own_ started (by kernel_rfl) Try.func6
    (ChangeSpec.witness6 (enc := enc) (C := Try.checked) false ⟨#[], #[zeroCred, zeroAttr, .bool false, .int .u8 0, .int .u8 0], []⟩ 8 (by kernel_rfl) (by kernel_rfl) (by kernel_rfl) (by kernel_rfl)) ?_
  intro W base args ds gs before hval0 hW hcnd _
  have hval : ∀ (j : Nat) t v, Try.f6.params[j]? = some t → args[j]? = some v → Value.okWide Try.prog W .any base t v := hval0
  have hW' := hW
  obtain ⟨p, q, hA0, hV, rfl, hfz, hnd⟩ := hW
  have hA : DataW.TrodAll enc Try.prog W 0 (fun _ => true) true Try.f6.params.toList args.toList ds p := hA0
  rw [Try.params6] at hA hval
  obtain ⟨v0, v1, v2, v3, v4, d0, d1, d2, d3, d4, p0, p1, p2, p3, p4, rfl, rfl, rfl, h0, h1, h2, h3, h4⟩ := trodAll_five hA
  obtain ⟨c, hc, okc⟩ := open_cred (hval 0 25 v0 rfl rfl) h0
  obtain ⟨a, hv, oka⟩ := open_attr (hval 1 31 v1 rfl rfl) h1
  obtain ⟨dr, rfl⟩ := (open_bool1 rfl) (hval 2 4 v2 rfl rfl) h2
  obtain ⟨wt, rfl, hwt⟩ := (open_u8 rfl) (hval 3 5 v3 rfl rfl) h3
  obtain ⟨pl, rfl, hpl⟩ := (open_u8 rfl) (hval 4 5 v4 rfl rfl) h4
  clear hA0 hval0
  refine (groups_law (hp W) c v0 a v1 dr wt pl hc hv oka hpl).below.mono fun e W' ⟨hb, v, R', h', he, hv⟩ => ?_
  subst he; subst hv
  exact ⟨_, rfl, post_true (tb := 4) laid_ (of_decide_eq_true (by kernel_rfl)) rfl rfl rfl rfl rfl rfl hW' hb⟩
theorem grantGroups_holds : Rows.GrantGroupsSaid :=
  OpenClaim.holds_of_wide 6 Try.f6 rfl rfl rfl rfl rfl rfl rfl ⟨rfl, rfl, rfl, rfl, rfl⟩ rfl rfl rfl rfl rfl (by kernel_rfl) Try.func6 (by kernel_rfl)
    (of_decide_eq_true (by kernel_rfl)) (by unfold Func.isWrapper; first | (rw [if_pos (by decide +kernel)]; kernel_rfl) | (rw [if_neg (by decide +kernel)]; exact ⟨rfl, rfl⟩))
    (fun os started H enc _ => grantGroups_lifted os started H enc)
set_option maxRecDepth 100000 in
theorem grantOther_lifted (os : Os) (started : os.Started) (H : Type) (enc : TypeId × Value → H) :
    ReturnsInHanded {} Try.checked os 7 .any (Rows.grantOtherSpec.pre6 enc Try.prog Try.f7 Rows.grantOtherRow.domain false) (Rows.grantOtherSpec.post enc Try.prog Try.f7 false true false false) := by
  refine returnsInHanded_of_change (C := Try.checked) own_ started (by kernel_rfl) Try.func7
    (ChangeSpec.witness6 (enc := enc) (C := Try.checked) false ⟨#[], #[zeroCred, zeroAttr, .bool false, .int .u8 0, .int .u8 0], []⟩ 8 (by kernel_rfl) (by kernel_rfl) (by kernel_rfl) (by kernel_rfl)) ?_
  intro W base args ds gs before hval0 hW hcnd _
  have hval : ∀ (j : Nat) t v, Try.f7.params[j]? = some t → args[j]? = some v → Value.okWide Try.prog W .any base t v := hval0
  have hW' := hW
  obtain ⟨p, q, hA0, hV, rfl, hfz, hnd⟩ := hW
  have hA : DataW.TrodAll enc Try.prog W 0 (fun _ => true) true Try.f7.params.toList args.toList ds p := hA0
  rw [Try.params7] at hA hval
  obtain ⟨v0, v1, v2, v3, v4, d0, d1, d2, d3, d4, p0, p1, p2, p3, p4, rfl, rfl, rfl, h0, h1, h2, h3, h4⟩ := trodAll_five hA
  obtain ⟨c, hc, okc⟩ := open_cred (hval 0 25 v0 rfl rfl) h0
  obtain ⟨a, hv, oka⟩ := open_attr (hval 1 31 v1 rfl rfl) h1
  obtain ⟨dr, rfl⟩ := (open_bool1 rfl) (hval 2 4 v2 rfl rfl) h2
  obtain ⟨wt, rfl, hwt⟩ := (open_u8 rfl) (hval 3 5 v3 rfl rfl) h3
  obtain ⟨ot, rfl, hot⟩ := (open_u8 rfl) (hval 4 5 v4 rfl rfl) h4
  clear hA0 hval0
  refine (other_law (hp W) c v0 a v1 dr wt ot hc hv oka hot).below.mono fun e W' ⟨hb, v, R', h', he, hv⟩ => ?_
  subst he; subst hv
  exact ⟨_, rfl, post_true (tb := 4) laid_ (of_decide_eq_true (by kernel_rfl)) rfl rfl rfl rfl rfl rfl hW' hb⟩
theorem grantOther_holds : Rows.GrantOtherSaid :=
  OpenClaim.holds_of_wide 7 Try.f7 rfl rfl rfl rfl rfl rfl rfl ⟨rfl, rfl, rfl, rfl, rfl⟩ rfl rfl rfl rfl rfl (by kernel_rfl) Try.func7 (by kernel_rfl)
    (of_decide_eq_true (by kernel_rfl)) (by unfold Func.isWrapper; first | (rw [if_pos (by decide +kernel)]; kernel_rfl) | (rw [if_neg (by decide +kernel)]; exact ⟨rfl, rfl⟩))
    (fun os started H enc _ => grantOther_lifted os started H enc)
end Go.Proofs.Ytjampjbhaekjbaa
