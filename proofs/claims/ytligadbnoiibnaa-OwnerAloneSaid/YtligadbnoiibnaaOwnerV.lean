/- Who may turn attributes: the row on who does not own it. -/
import Derived.Test.YtligadbnoiibnaaOwnerU
import Derived.Test.YtligadbnoiibnaaOwnerR
namespace Go.Proofs.Ytligadbnoiibnaa
set_option maxRecDepth 4000
open Go Go.Par PH Go.ChangeShapes Go.WideShapes Go.ChangeAt Go.RowKit
set_option maxRecDepth 100000 in
theorem ownerAlone_lifted (os : Os) (started : os.Started) (H : Type) (enc : TypeId × Value → H) :
    ReturnsInHanded {} Try.checked os 4 .any (Rows.ownerAloneSpec.pre6 enc Try.prog Try.f4 Rows.ownerAloneRow.domain false) (Rows.ownerAloneSpec.post enc Try.prog Try.f4 false true false false) := by
  refine returnsInHanded_of_change (C := Try.checked) own_ started (by kernel_rfl) Try.func4
    (ChangeSpec.witness6 (enc := enc) (C := Try.checked) false ⟨#[], #[zeroCred, zeroAttr, .int .u8 0, .int .u16 0, .int .i64 0, .int .i64 0, .int .u8 0, zeroAcl], []⟩ 8 (by kernel_rfl) (by kernel_rfl) (by kernel_rfl) (by kernel_rfl)) ?_
  intro W base args ds gs before hval0 hW hcnd _
  have hval : ∀ (j : Nat) t v, Try.f4.params[j]? = some t → args[j]? = some v → Value.okWide Try.prog W .any base t v := hval0
  have hW' := hW
  obtain ⟨p, q, hA0, hV, rfl, hfz, hnd⟩ := hW
  have hA : DataW.TrodAll enc Try.prog W 0 (fun _ => true) true Try.f4.params.toList args.toList ds p := hA0
  rw [Try.params4] at hA hval
  obtain ⟨v0, v1, v2, v3, v4, v5, v6, v7, d0, d1, d2, d3, d4, d5, d6, d7, p0, p1, p2, p3, p4, p5, p6, p7, rfl, rfl, rfl, h0, h1, h2, h3, h4, h5, h6, h7⟩ := trodAll_eight hA
  obtain ⟨c, hc, okc⟩ := open_cred (hval 0 25 v0 rfl rfl) h0
  obtain ⟨a, hv, oka⟩ := open_attr (hval 1 31 v1 rfl rfl) h1
  obtain ⟨kd, rfl, hkd⟩ := (open_u8 rfl) (hval 2 5 v2 rfl rfl) h2
  obtain ⟨md, rfl, hmd⟩ := (open_u16 rfl) (hval 3 22 v3 rfl rfl) h3
  obtain ⟨ui, rfl⟩ := (open_i64 rfl) (hval 4 3 v4 rfl rfl) h4
  obtain ⟨gi, rfl⟩ := (open_i64 rfl) (hval 5 3 v5 rfl rfl) h5
  obtain ⟨wh, rfl, hwh⟩ := (open_u8 rfl) (hval 6 5 v6 rfl rfl) h6
  obtain ⟨l, hl, okl⟩ := open_acl (hval 7 28 v7 rfl rfl) h7
  clear hA0 hval0
  refine (alone_law (hp W) c v0 a v1 kd md ui gi wh l v7 hc hv oka hmd hl okl).below.mono fun e W' ⟨hb, v, R', h', he, hv⟩ => ?_
  subst he; subst hv
  exact ⟨_, rfl, post_true (tb := 4) laid_ (of_decide_eq_true (by kernel_rfl)) rfl rfl rfl rfl rfl rfl hW' hb⟩
theorem ownerAlone_holds : Rows.OwnerAloneSaid :=
  OpenClaim.holds_of_wide 4 Try.f4 rfl rfl rfl rfl rfl rfl rfl ⟨rfl, rfl, rfl, rfl, rfl⟩ rfl rfl rfl rfl rfl (by kernel_rfl) Try.func4 (by kernel_rfl)
    (of_decide_eq_true (by kernel_rfl)) (by unfold Func.isWrapper; first | (rw [if_pos (by decide +kernel)]; kernel_rfl) | (rw [if_neg (by decide +kernel)]; exact ⟨rfl, rfl⟩))
    (fun os started H enc _ => ownerAlone_lifted os started H enc)
end Go.Proofs.Ytligadbnoiibnaa
