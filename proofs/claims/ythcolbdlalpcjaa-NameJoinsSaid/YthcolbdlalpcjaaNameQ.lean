/- Names and paths: which names may be, what paths are, what is joined: the rows. -/
import Derived.Test.YthcolbdlalpcjaaNameO
import Derived.Test.YthcolbdlalpcjaaRowC
namespace Go.Proofs.Ythcolbdlalpcjaa
set_option maxRecDepth 4000
open Go Go.Par PH Go.ChangeShapes Go.WideShapes Go.ChangeAt Go.RowKit
theorem opnP : Opn Try.prog 9 fun _ cs (a : Bs) => cs = encP a ∧ True := by
  intro H enc W sp held fuel cs x h
  obtain ⟨s, e, _⟩ := Opn_string rfl h
  refine ⟨s.data.toList, ?_, trivial⟩
  rw [e]
  unfold encP
  rw [← mkB_of s]
theorem opnPs : Opn Try.prog 27 fun h cs (p : Value × List Bs) => cs = [p.1] ∧ Sl encP 1 h p.1 p.2 ∧ ∀ a ∈ p.2, True := Opn_slice rfl rfl (by decide) opnP
theorem opnPth : Opn Try.prog 29 fun h cs (p : Value × Pth) => cs = pthC p.2 p.1 ∧ Sl encP 1 h p.1 p.2.ps := by
  intro H enc W sp held fuel cs x h
  obtain ⟨hl, hf⟩ := trod_fields (fs := _) rfl h
  have hl : cs.length = 3 := hl
  match cs, hl with
  | [c0, c1, c2], _ =>
    obtain ⟨_, _, f0⟩ := hf _ (.head _)
    obtain ⟨_, _, f1⟩ := hf _ (.tail _ (.head _))
    obtain ⟨_, _, f2⟩ := hf _ (.tail _ (.tail _ (.head _)))
    obtain ⟨a, e0⟩ := Opn_bool rfl f0
    obtain ⟨b, e1⟩ := Opn_bool rfl f1
    obtain ⟨⟨xv, ps⟩, e2, hx, -⟩ := opnPs f2
    have e0 : [c0] = [.bool a] := e0
    have e1 : [c1] = [.bool b] := e1
    have e2 : [c2] = [xv] := e2
    cases e0; cases e1; cases e2
    exact ⟨(xv, ⟨a, b, ps⟩), rfl, hx⟩
theorem open_pth {H : Type} {enc : TypeId × Value → H} {W : World} {r : Reach} {base : Nat} {sp : Nat → Bool} {held : Bool} {v : Value} {d : DataW H} {ps : List MemPlace} (hval : Value.okWide Try.prog W r base 29 v)
    (hd : DataW.Trod enc Try.prog W 0 sp held 29 v d ps) : ∃ p, PthV (hp W) v p := by
  obtain ⟨fuel, hd⟩ := hd
  obtain ⟨⟨x, p⟩, e, hx⟩ := opnPth hd
  obtain ⟨cs, rfl, _⟩ : ∃ cs, v = .agg cs ∧ _ := hval
  refine ⟨p, x, ?_, hx⟩
  have e : cs.toList = pthC p x := e
  have : cs = (pthC p x).toArray := by rw [← e]
  rw [this]; rfl
set_option maxRecDepth 100000 in
theorem nameChecks_lifted (os : Os) (started : os.Started) (H : Type) (enc : TypeId × Value → H) :
    ReturnsInHanded {} Try.checked os 3 .any (Rows.nameChecksSpec.pre6 enc Try.prog Try.f3 Rows.nameChecksRow.domain false) (Rows.nameChecksSpec.post enc Try.prog Try.f3 false true false false) := by
  refine returnsInHanded_of_change (C := Try.checked) own_ started (by kernel_rfl) Try.func3
    (ChangeSpec.witness6 (enc := enc) (C := Try.checked) false ⟨#[], #[.string ⟨#[]⟩], []⟩ 8 (by kernel_rfl) (by kernel_rfl) (by kernel_rfl) (by kernel_rfl)) ?_
  intro W base args ds gs before hval0 hW hcnd _
  have hval : ∀ (j : Nat) t v, Try.f3.params[j]? = some t → args[j]? = some v → Value.okWide Try.prog W .any base t v := hval0
  have hW' := hW
  obtain ⟨p, q, hA0, hV, rfl, hfz, hnd⟩ := hW
  have hA : DataW.TrodAll enc Try.prog W 0 (fun _ => true) true Try.f3.params.toList args.toList ds p := hA0
  rw [Try.params3] at hA hval
  obtain ⟨v0, d0, rfl, rfl, h0⟩ := trodAll_one hA
  obtain ⟨s, rfl⟩ := (opn_str rfl) (hval 0 9 v0 rfl rfl) h0
  clear hA0 hval0
  refine (checks_law (hp W) s).below.mono fun e W' ⟨hb, v, R', h', he, hv⟩ => ?_
  subst he; subst hv
  exact ⟨_, rfl, post_true (tb := 4) laid_ (of_decide_eq_true (by kernel_rfl)) rfl rfl rfl rfl rfl rfl hW' hb⟩
theorem nameChecks_holds : Rows.NameChecksSaid :=
  OpenClaim.holds_of_wide 3 Try.f3 rfl rfl rfl rfl rfl rfl rfl ⟨rfl, rfl, rfl, rfl, rfl⟩ rfl rfl rfl rfl rfl (by kernel_rfl) Try.func3 (by kernel_rfl)
    (of_decide_eq_true (by kernel_rfl)) (by unfold Func.isWrapper; first | (rw [if_pos (by decide +kernel)]; kernel_rfl) | (rw [if_neg (by decide +kernel)]; exact ⟨rfl, rfl⟩))
    (fun os started H enc _ => nameChecks_lifted os started H enc)
set_option maxRecDepth 100000 in
theorem nameSplits_lifted (os : Os) (started : os.Started) (H : Type) (enc : TypeId × Value → H) :
    ReturnsInHanded {} Try.checked os 4 .any (Rows.nameSplitsSpec.pre6 enc Try.prog Try.f4 Rows.nameSplitsRow.domain false) (Rows.nameSplitsSpec.post enc Try.prog Try.f4 false true false false) := by
  refine returnsInHanded_of_change (C := Try.checked) own_ started (by kernel_rfl) Try.func4
    (ChangeSpec.witness6 (enc := enc) (C := Try.checked) false ⟨#[], #[.string ⟨#[]⟩], []⟩ 8 (by kernel_rfl) (by kernel_rfl) (by kernel_rfl) (by kernel_rfl)) ?_
  intro W base args ds gs before hval0 hW hcnd _
  have hval : ∀ (j : Nat) t v, Try.f4.params[j]? = some t → args[j]? = some v → Value.okWide Try.prog W .any base t v := hval0
  have hW' := hW
  obtain ⟨p, q, hA0, hV, rfl, hfz, hnd⟩ := hW
  have hA : DataW.TrodAll enc Try.prog W 0 (fun _ => true) true Try.f4.params.toList args.toList ds p := hA0
  rw [Try.params4] at hA hval
  obtain ⟨v0, d0, rfl, rfl, h0⟩ := trodAll_one hA
  obtain ⟨s, rfl⟩ := (opn_str rfl) (hval 0 9 v0 rfl rfl) h0
  clear hA0 hval0
  refine (splits_law (hp W) s).below.mono fun e W' ⟨hb, v, R', h', he, hv⟩ => ?_
  subst he; subst hv
  exact ⟨_, rfl, post_true (tb := 4) laid_ (of_decide_eq_true (by kernel_rfl)) rfl rfl rfl rfl rfl rfl hW' hb⟩
theorem nameSplits_holds : Rows.NameSplitsSaid :=
  OpenClaim.holds_of_wide 4 Try.f4 rfl rfl rfl rfl rfl rfl rfl ⟨rfl, rfl, rfl, rfl, rfl⟩ rfl rfl rfl rfl rfl (by kernel_rfl) Try.func4 (by kernel_rfl)
    (of_decide_eq_true (by kernel_rfl)) (by unfold Func.isWrapper; first | (rw [if_pos (by decide +kernel)]; kernel_rfl) | (rw [if_neg (by decide +kernel)]; exact ⟨rfl, rfl⟩))
    (fun os started H enc _ => nameSplits_lifted os started H enc)
set_option maxRecDepth 100000 in
theorem nameJoins_lifted (os : Os) (started : os.Started) (H : Type) (enc : TypeId × Value → H) :
    ReturnsInHanded {} Try.checked os 5 .any (Rows.nameJoinsSpec.pre6 enc Try.prog Try.f5 Rows.nameJoinsRow.domain false) (Rows.nameJoinsSpec.post enc Try.prog Try.f5 false true false false) := by
  refine returnsInHanded_of_change (C := Try.checked) own_ started (by kernel_rfl) Try.func5
    (ChangeSpec.witness6 (enc := enc) (C := Try.checked) false ⟨#[], #[.agg #[.bool false, .bool false, .slice none 0 0]], []⟩ 8 (by kernel_rfl) (by kernel_rfl) (by kernel_rfl) (by kernel_rfl)) ?_
  intro W base args ds gs before hval0 hW hcnd _
  have hval : ∀ (j : Nat) t v, Try.f5.params[j]? = some t → args[j]? = some v → Value.okWide Try.prog W .any base t v := hval0
  have hW' := hW
  obtain ⟨p, q, hA0, hV, rfl, hfz, hnd⟩ := hW
  have hA : DataW.TrodAll enc Try.prog W 0 (fun _ => true) true Try.f5.params.toList args.toList ds p := hA0
  rw [Try.params5] at hA hval
  obtain ⟨v0, d0, rfl, rfl, h0⟩ := trodAll_one hA
  obtain ⟨p, hv⟩ := open_pth (hval 0 29 v0 rfl rfl) h0
  clear hA0 hval0
  refine (joins_law (hp W) p v0 hv).below.mono fun e W' ⟨hb, v, R', h', he, hv⟩ => ?_
  subst he; subst hv
  exact ⟨_, rfl, post_true (tb := 4) laid_ (of_decide_eq_true (by kernel_rfl)) rfl rfl rfl rfl rfl rfl hW' hb⟩
theorem nameJoins_holds : Rows.NameJoinsSaid :=
  OpenClaim.holds_of_wide 5 Try.f5 rfl rfl rfl rfl rfl rfl rfl ⟨rfl, rfl, rfl, rfl, rfl⟩ rfl rfl rfl rfl rfl (by kernel_rfl) Try.func5 (by kernel_rfl)
    (of_decide_eq_true (by kernel_rfl)) (by unfold Func.isWrapper; first | (rw [if_pos (by decide +kernel)]; kernel_rfl) | (rw [if_neg (by decide +kernel)]; exact ⟨rfl, rfl⟩))
    (fun os started H enc _ => nameJoins_lifted os started H enc)
end Go.Proofs.Ythcolbdlalpcjaa
