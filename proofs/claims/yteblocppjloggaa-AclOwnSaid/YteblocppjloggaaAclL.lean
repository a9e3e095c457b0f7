/- Access lists: the row on bits. -/
import Derived.Test.YteblocppjloggaaAclJ
import Derived.Test.YteblocppjloggaaAclK
namespace Go.Proofs.Yteblocppjloggaa
open Go Go.Par Go.ChangeShapes Go.WideShapes Go.ChangeAt Go.RowKit
theorem open_u16 {H : Type} {enc : TypeId × Value → H} {W : World} {r : Reach} {base : Nat} {sp : Nat → Bool} {held : Bool} {v : Value} {d : DataW H} {ps : List MemPlace} (hval : Value.okWide Try.prog W r base 31 v)
    (hd : DataW.Trod enc Try.prog W 0 sp held 31 v d ps) : ∃ n, v = .int .u16 n ∧ u16 n := by
  obtain ⟨n, rfl, _, _, hw⟩ := open_int (k := .u16) rfl hval hd
  refine ⟨n, rfl, ?_⟩
  have hw : (decide ((0 : Int) ≤ n) && decide (n ≤ 65535)) = true := hw
  simp only [Bool.and_eq_true, decide_eq_true_eq] at hw
  exact hw
set_option maxRecDepth 100000 in
theorem aclBits_lifted (os : Os) (started : os.Started) (H : Type) (enc : TypeId × Value → H) :
    ReturnsInHanded {} Try.checked os 4 .any (Rows.aclBitsSpec.pre6 enc Try.prog Try.f4 Rows.aclBitsRow.domain false) (Rows.aclBitsSpec.post enc Try.prog Try.f4 false true false false) := by
  refine returnsInHanded_of_change (C := Try.checked) own_ started (by kernel_rfl) Try.func4
    (ChangeSpec.witness6 (enc := enc) (C := Try.checked) false ⟨#[], #[zeroAcl, .int .u16 0], []⟩ 8 (by kernel_rfl) (by kernel_rfl) (by kernel_rfl) (by kernel_rfl)) ?_
  intro W base args ds gs before hval0 hW hcnd _
  have hval : ∀ (j : Nat) t v, Try.f4.params[j]? = some t → args[j]? = some v → Value.okWide Try.prog W .any base t v := hval0
  have hW' := hW
  obtain ⟨p, q, hA0, hV, rfl, hfz, hnd⟩ := hW
  have hA : DataW.TrodAll enc Try.prog W 0 (fun _ => true) true Try.f4.params.toList args.toList ds p := hA0
  rw [Try.params4] at hA hval
  obtain ⟨v0, v1, d0, d1, p0, p1, rfl, rfl, rfl, h0, h1⟩ := trodAll_two hA
  obtain ⟨a, A1, A2⟩ := open_acl (hval 0 24 v0 rfl rfl) h0
  obtain ⟨b, rfl, B2⟩ := open_u16 (hval 1 31 v1 rfl rfl) h1
  clear hA0 hval0
  refine (bits_law (hp W) a b v0 A1 A2 B2).below.mono fun e W' ⟨hb, v, R', h', he, hv⟩ => ?_
  subst he; subst hv
  exact ⟨_, rfl, post_true (tb := 4) laid_ (of_decide_eq_true (by kernel_rfl)) rfl rfl rfl rfl rfl rfl hW' hb⟩
theorem aclBits_holds : Rows.AclBitsSaid :=
  OpenClaim.holds_of_wide 4 Try.f4 rfl rfl rfl rfl rfl rfl rfl ⟨rfl, rfl, rfl, rfl, rfl⟩ rfl rfl rfl rfl rfl (by kernel_rfl) Try.func4 (by kernel_rfl)
    (of_decide_eq_true (by kernel_rfl)) (by unfold Func.isWrapper; first | (rw [if_pos (by decide +kernel)]; kernel_rfl) | (rw [if_neg (by decide +kernel)]; exact ⟨rfl, rfl⟩))
    (fun os started H enc _ => aclBits_lifted os started H enc)
end Go.Proofs.Yteblocppjloggaa
