/- Access lists: the row on lists of one's own. -/
import Derived.Test.YteblocppjloggaaAclL
import Derived.Test.YteblocppjloggaaAclO
namespace Go.Proofs.Yteblocppjloggaa
open Go Go.Par Go.ChangeShapes Go.WideShapes Go.ChangeAt Go.RowKit
set_option maxRecDepth 100000 in
theorem aclOwn_lifted (os : Os) (started : os.Started) (H : Type) (enc : TypeId × Value → H) :
    ReturnsInHanded {} Try.checked os 6 .any (Rows.aclOwnSpec.pre6 enc Try.prog Try.f6 Rows.aclOwnRow.domain false) (Rows.aclOwnSpec.post enc Try.prog Try.f6 false true false false) := by
  refine returnsInHanded_of_change (C := Try.checked) own_ started (by kernel_rfl) Try.func6
    (ChangeSpec.witness6 (enc := enc) (C := Try.checked) false ⟨#[], #[zeroAcl, .int .u16 0], []⟩ 8 (by kernel_rfl) (by kernel_rfl) (by kernel_rfl) (by kernel_rfl)) ?_
  intro W base args ds gs before hval0 hW hcnd _
  have hval : ∀ (j : Nat) t v, Try.f6.params[j]? = some t → args[j]? = some v → Value.okWide Try.prog W .any base t v := hval0
  have hW' := hW
  obtain ⟨p, q, hA0, hV, rfl, hfz, hnd⟩ := hW
  have hA : DataW.TrodAll enc Try.prog W 0 (fun _ => true) true Try.f6.params.toList args.toList ds p := hA0
  rw [Try.params6] at hA hval
  obtain ⟨v0, v1, d0, d1, p0, p1, rfl, rfl, rfl, h0, h1⟩ := trodAll_two hA
  obtain ⟨a, A1, A2⟩ := open_acl (hval 0 24 v0 rfl rfl) h0
  obtain ⟨b, rfl, B2⟩ := open_u16 (hval 1 31 v1 rfl rfl) h1
  clear hA0 hval0
  refine (own_law (hp W) a b v0 A1 A2 B2).below.mono fun e W' ⟨hb, v, R', h', he, hv⟩ => ?_
  subst he; subst hv
  exact ⟨_, rfl, post_true (tb := 4) laid_ (of_decide_eq_true (by kernel_rfl)) rfl rfl rfl rfl rfl rfl hW' hb⟩
theorem aclOwn_holds : Rows.AclOwnSaid :=
  OpenClaim.holds_of_wide 6 Try.f6 rfl rfl rfl rfl rfl rfl rfl ⟨rfl, rfl, rfl, rfl, rfl⟩ rfl rfl rfl rfl rfl (by kernel_rfl) Try.func6 (by kernel_rfl)
    (of_decide_eq_true (by kernel_rfl)) (by unfold Func.isWrapper; first | (rw [if_pos (by decide +kernel)]; kernel_rfl) | (rw [if_neg (by decide +kernel)]; exact ⟨rfl, rfl⟩))
    (fun os started H enc _ => aclOwn_lifted os started H enc)
end Go.Proofs.Yteblocppjloggaa
