/- Who may turn attributes: rows. -/
import Derived.Test.YtligadbnoiibnaaOwnerO
import Derived.Test.YtligadbnoiibnaaAttrO
import Derived.Test.YtligadbnoiibnaaRowB
namespace Go.Proofs.Ytligadbnoiibnaa
set_option maxRecDepth 4000
open Go Go.Par PH Go.ChangeShapes Go.WideShapes Go.ChangeAt Go.RowKit
theorem open_i64 {H : Type} {enc : TypeId × Value → H} {W : World} {r : Reach} {base : Nat} {sp : Nat → Bool} {held : Bool} {v : Value} {d : DataW H} {ps : List MemPlace} {t : TypeId} (ht : Try.prog.underlying t = some (.int .i64)) (hval : Value.okWide Try.prog W r base t v)
    (hd : DataW.Trod enc Try.prog W 0 sp held t v d ps) : ∃ n, v = .int .i64 n := by
  obtain ⟨n, rfl, _⟩ := ChangeShapes.open_int (k := .i64) ht hval hd
  exact ⟨n, rfl⟩
abbrev zeroAcl : Value := .agg #[.int .u8 0, .int .u8 0, .int .u8 0, .slice none 0 0, .slice none 0 0, .bool false, .int .u8 0]
abbrev zeroAttr : Value := .agg #[.int .u8 0, .int .u16 0, .int .u16 0, .int .u8 0, .int .u8 0, .int .u8 0, .slice none 0 0, .slice none 0 0, .bool false, .int .u8 0, .bool false, .int .u8 0, .int .u8 0, .int .u8 0, .slice none 0 0, .slice none 0 0, .bool false, .int .u8 0, .slice none 0 0]
abbrev zeroCred : Value := .agg #[.int .u16 0, .int .u16 0, .slice none 0 0, .bool false]
set_option maxRecDepth 100000 in
theorem ownerTurns_lifted (os : Os) (started : os.Started) (H : Type) (enc : TypeId × Value → H) :
    ReturnsInHanded {} Try.checked os 6 .any (Rows.ownerTurnsSpec.pre6 enc Try.prog Try.f6 Rows.ownerTurnsRow.domain false) (Rows.ownerTurnsSpec.post enc Try.prog Try.f6 false true false false) := by
  refine returnsInHanded_of_change (C := Try.checked) own_ started (by kernel_rfl) Try.func6
    (ChangeSpec.witness6 (enc := enc) (C := Try.checked) false ⟨#[], #[zeroCred, zeroAttr, .int .u8 0, .int .u16 0, .int .i64 0, .int .i64 0], []⟩ 8 (by kernel_rfl) (by kernel_rfl) (by kernel_rfl) (by kernel_rfl)) ?_
  intro W base args ds gs before hval0 hW hcnd _
  have hval : ∀ (j : Nat) t v, Try.f6.params[j]? = some t → args[j]? = some v → Value.okWide Try.prog W .any base t v := hval0
  have hW' := hW
  obtain ⟨p, q, hA0, hV, rfl, hfz, hnd⟩ := hW
  have hA : DataW.TrodAll enc Try.prog W 0 (fun _ => true) true Try.f6.params.toList args.toList ds p := hA0
  rw [Try.params6] at hA hval
  obtain ⟨v0, v1, v2, v3, v4, v5, d0, d1, d2, d3, d4, d5, p0, p1, p2, p3, p4, p5, rfl, rfl, rfl, h0, h1, h2, h3, h4, h5⟩ := trodAll_six hA
  obtain ⟨c, hc, okc⟩ := open_cred (hval 0 25 v0 rfl rfl) h0
  obtain ⟨a, hv, oka⟩ := open_attr (hval 1 31 v1 rfl rfl) h1
  obtain ⟨kd, rfl, hkd⟩ := (open_u8 rfl) (hval 2 5 v2 rfl rfl) h2
  obtain ⟨md, rfl, hmd⟩ := (open_u16 rfl) (hval 3 22 v3 rfl rfl) h3
  obtain ⟨ui, rfl⟩ := (open_i64 rfl) (hval 4 3 v4 rfl rfl) h4
  obtain ⟨gi, rfl⟩ := (open_i64 rfl) (hval 5 3 v5 rfl rfl) h5
  clear hA0 hval0
  refine (turns_law (hp W) c v0 a v1 kd md ui gi hc hv oka hmd).below.mono fun e W' ⟨hb, v, R', h', he, hv⟩ => ?_
  subst he; subst hv
  exact ⟨_, rfl, post_true (tb := 4) laid_ (of_decide_eq_true (by kernel_rfl)) rfl rfl rfl rfl rfl rfl hW' hb⟩
theorem ownerTurns_holds : Rows.OwnerTurnsSaid :=
  OpenClaim.holds_of_wide 6 Try.f6 rfl rfl rfl rfl rfl rfl rfl ⟨rfl, rfl, rfl, rfl, rfl⟩ rfl rfl rfl rfl rfl (by kernel_rfl) Try.func6 (by kernel_rfl)
    (of_decide_eq_true (by kernel_rfl)) (by unfold Func.isWrapper; first | (rw [if_pos (by decide +kernel)]; kernel_rfl) | (rw [if_neg (by decide +kernel)]; exact ⟨rfl, rfl⟩))
    (fun os started H enc _ => ownerTurns_lifted os started H enc)
set_option maxRecDepth 100000 in
theorem ownerLists_lifted (os : Os) (started : os.Started) (H : Type) (enc : TypeId × Value → H) :
    ReturnsInHanded {} Try.checked os 3 .any (Rows.ownerListsSpec.pre6 enc Try.prog Try.f3 Rows.ownerListsRow.domain false) (Rows.ownerListsSpec.post enc Try.prog Try.f3 false true false false) := by
  refine returnsInHanded_of_change (C := Try.checked) own_ started (by kernel_rfl) Try.func3
    (ChangeSpec.witness6 (enc := enc) (C := Try.checked) false ⟨#[], #[zeroCred, zeroAttr, zeroAttr, .int .u8 0, .int .u8 0, zeroAcl], []⟩ 8 (by kernel_rfl) (by kernel_rfl) (by kernel_rfl) (by kernel_rfl)) ?_
  intro W base args ds gs before hval0 hW hcnd _
  have hval : ∀ (j : Nat) t v, Try.f3.params[j]? = some t → args[j]? = some v → Value.okWide Try.prog W .any base t v := hval0
  have hW' := hW
  obtain ⟨p, q, hA0, hV, rfl, hfz, hnd⟩ := hW
  have hA : DataW.TrodAll enc Try.prog W 0 (fun _ => true) true Try.f3.params.toList args.toList ds p := hA0
  rw [Try.params3] at hA hval
  obtain ⟨v0, v1, v2, v3, v4, v5, d0, d1, d2, d3, d4, d5, p0, p1, p2, p3, p4, p5, rfl, rfl, rfl, h0, h1, h2, h3, h4, h5⟩ := trodAll_six hA
  obtain ⟨c, hc, okc⟩ := open_cred (hval 0 25 v0 rfl rfl) h0
  obtain ⟨a, hv, oka⟩ := open_attr (hval 1 31 v1 rfl rfl) h1
  obtain ⟨d, hd, okd⟩ := open_attr (hval 2 31 v2 rfl rfl) h2
  obtain ⟨kd, rfl, hkd⟩ := (open_u8 rfl) (hval 3 5 v3 rfl rfl) h3
  obtain ⟨wh, rfl, hwh⟩ := (open_u8 rfl) (hval 4 5 v4 rfl rfl) h4
  obtain ⟨l, hl, okl⟩ := open_acl (hval 5 28 v5 rfl rfl) h5
  clear hA0 hval0
  refine (lists_law (hp W) c v0 a d v1 v2 kd wh l v5 hc hv oka hd okd hl okl).below.mono fun e W' ⟨hb, v, R', h', he, hv⟩ => ?_
  subst he; subst hv
  exact ⟨_, rfl, post_true (tb := 4) laid_ (of_decide_eq_true (by kernel_rfl)) rfl rfl rfl rfl rfl rfl hW' hb⟩
theorem ownerLists_holds : Rows.OwnerListsSaid :=
  OpenClaim.holds_of_wide 3 Try.f3 rfl rfl rfl rfl rfl rfl rfl ⟨rfl, rfl, rfl, rfl, rfl⟩ rfl rfl rfl rfl rfl (by kernel_rfl) Try.func3 (by kernel_rfl)
    (of_decide_eq_true (by kernel_rfl)) (by unfold Func.isWrapper; first | (rw [if_pos (by decide +kernel)]; kernel_rfl) | (rw [if_neg (by decide +kernel)]; exact ⟨rfl, rfl⟩))
    (fun os started H enc _ => ownerLists_lifted os started H enc)
set_option maxRecDepth 100000 in
theorem ownerSticky_lifted (os : Os) (started : os.Started) (H : Type) (enc : TypeId × Value → H) :
    ReturnsInHanded {} Try.checked os 5 .any (Rows.ownerStickySpec.pre6 enc Try.prog Try.f5 Rows.ownerStickyRow.domain false) (Rows.ownerStickySpec.post enc Try.prog Try.f5 false true false false) := by
  refine returnsInHanded_of_change (C := Try.checked) own_ started (by kernel_rfl) Try.func5
    (ChangeSpec.witness6 (enc := enc) (C := Try.checked) false ⟨#[], #[zeroCred, zeroAttr, zeroAttr], []⟩ 8 (by kernel_rfl) (by kernel_rfl) (by kernel_rfl) (by kernel_rfl)) ?_
  intro W base args ds gs before hval0 hW hcnd _
  have hval : ∀ (j : Nat) t v, Try.f5.params[j]? = some t → args[j]? = some v → Value.okWide Try.prog W .any base t v := hval0
  have hW' := hW
  obtain ⟨p, q, hA0, hV, rfl, hfz, hnd⟩ := hW
  have hA : DataW.TrodAll enc Try.prog W 0 (fun _ => true) true Try.f5.params.toList args.toList ds p := hA0
  rw [Try.params5] at hA hval
  obtain ⟨v0, v1, v2, d0, d1, d2, p0, p1, p2, rfl, rfl, rfl, h0, h1, h2⟩ := trodAll_three hA
  obtain ⟨c, hc, okc⟩ := open_cred (hval 0 25 v0 rfl rfl) h0
  obtain ⟨d, hd, okd⟩ := open_attr (hval 1 31 v1 rfl rfl) h1
  obtain ⟨a, hv, oka⟩ := open_attr (hval 2 31 v2 rfl rfl) h2
  clear hA0 hval0
  refine (sticky_law (hp W) c v0 d a v1 v2 hc hd okd hv oka).below.mono fun e W' ⟨hb, v, R', h', he, hv⟩ => ?_
  subst he; subst hv
  exact ⟨_, rfl, post_true (tb := 4) laid_ (of_decide_eq_true (by kernel_rfl)) rfl rfl rfl rfl rfl rfl hW' hb⟩
theorem ownerSticky_holds : Rows.OwnerStickySaid :=
  OpenClaim.holds_of_wide 5 Try.f5 rfl rfl rfl rfl rfl rfl rfl ⟨rfl, rfl, rfl, rfl, rfl⟩ rfl rfl rfl rfl rfl (by kernel_rfl) Try.func5 (by kernel_rfl)
    (of_decide_eq_true (by kernel_rfl)) (by unfold Func.isWrapper; first | (rw [if_pos (by decide +kernel)]; kernel_rfl) | (rw [if_neg (by decide +kernel)]; exact ⟨rfl, rfl⟩))
    (fun os started H enc _ => ownerSticky_lifted os started H enc)
end Go.Proofs.Ytligadbnoiibnaa
