/- Files: which blocks are holes and which pieces a text is, what a word is with bytes in it, what is left of a map that is cut off: each as the document says, whatever is given: the rows. -/
import Derived.Test.YtoocbfpomamdeaaFileN
import Derived.Test.YtoocbfpomamdeaaRowC
namespace Go.Proofs.Ytoocbfpomamdeaa
set_option maxRecDepth 4000
open Go Go.Par PH Go.ChangeShapes Go.WideShapes Go.ChangeAt Go.RowKit
theorem opnI : Opn Try.prog 3 fun _ cs (a : Int) => cs = encI a ∧ True := by
  intro H enc W sp held fuel cs x h
  obtain ⟨a, e, _⟩ := Opn_int (k := .i64) rfl h
  exact ⟨a, e, trivial⟩
theorem opnIs : Opn Try.prog 22 fun h cs (p : Value × List Int) => cs = [p.1] ∧ Sl encI 1 h p.1 p.2 ∧ ∀ a ∈ p.2, True := Opn_slice rfl rfl (by decide) opnI
theorem open_ints {H : Type} {enc : TypeId × Value → H} {W : World} {r : Reach} {base : Nat} {sp : Nat → Bool} {held : Bool} {v : Value} {d : DataW H} {ps : List MemPlace} (hval : Value.okWide Try.prog W r base 22 v)
    (hd : DataW.Trod enc Try.prog W 0 sp held 22 v d ps) : ∃ l, Sl encI 1 (hp W) v l := by
  obtain ⟨fuel, hd⟩ := hd
  obtain ⟨⟨u, l⟩, e, hs, hok⟩ := opnIs hd
  obtain ⟨a, m, cap, rfl⟩ := okWide_slice (e := 3) rfl hval
  have e : [Value.slice a m cap] = [u] := e
  cases e
  exact ⟨l, hs⟩
theorem u64lt {w : Nat} (h : (w : Int) ≤ IntKind.u64.max) : w < 18446744073709551616 := by
  rw [show IntKind.u64.max = 18446744073709551615 from rfl] at h; omega
set_option maxRecDepth 100000 in
theorem fileNeeds_lifted (os : Os) (started : os.Started) (H : Type) (enc : TypeId × Value → H) :
    ReturnsInHanded {} Try.checked os 3 .any (Rows.fileNeedsSpec.pre6 enc Try.prog Try.f3 Rows.fileNeedsRow.domain false) (Rows.fileNeedsSpec.post enc Try.prog Try.f3 false true false false) := by
  refine returnsInHanded_of_change (C := Try.checked) own_ started (by kernel_rfl) Try.func3
    (ChangeSpec.witness6 (enc := enc) (C := Try.checked) false ⟨#[], #[.slice none 0 0, .int .i64 0, .int .i64 0, .string ⟨#[]⟩], []⟩ 8 (by kernel_rfl) (by kernel_rfl) (by kernel_rfl) (by kernel_rfl)) ?_
  intro W base args ds gs before hval0 hW hcnd _
  have hval : ∀ (j : Nat) t v, Try.f3.params[j]? = some t → args[j]? = some v → Value.okWide Try.prog W .any base t v := hval0
  have hW' := hW
  obtain ⟨p, q, hA0, hV, rfl, hfz, hnd⟩ := hW
  have hA : DataW.TrodAll enc Try.prog W 0 (fun _ => true) true Try.f3.params.toList args.toList ds p := hA0
  rw [Try.params3] at hA hval
  obtain ⟨v0, v1, v2, v3, d0, d1, d2, d3, p0, p1, p2, p3, rfl, rfl, rfl, h0, h1, h2, h3⟩ := trodAll_four hA
  obtain ⟨m, hm⟩ := open_ints (hval 0 22 v0 rfl rfl) h0
  obtain ⟨off, rfl, hoff⟩ := (opn_int (k := .i64) rfl) (hval 1 2 v1 rfl rfl) h1
  obtain ⟨n, rfl, hn⟩ := (opn_int (k := .i64) rfl) (hval 2 3 v2 rfl rfl) h2
  obtain ⟨s, rfl⟩ := (opn_str rfl) (hval 3 9 v3 rfl rfl) h3
  clear hA0 hval0
  refine (needs_law (hp W) m v0 off n s hm).below.mono fun e W' ⟨hb, v, R', h', he, hv⟩ => ?_
  subst he; subst hv
  exact ⟨_, rfl, post_true (tb := 4) laid_ (of_decide_eq_true (by kernel_rfl)) rfl rfl rfl rfl rfl rfl hW' hb⟩
theorem fileNeeds_holds : Rows.FileNeedsSaid :=
  OpenClaim.holds_of_wide 3 Try.f3 rfl rfl rfl rfl rfl rfl rfl ⟨rfl, rfl, rfl, rfl, rfl⟩ rfl rfl rfl rfl rfl (by kernel_rfl) Try.func3 (by kernel_rfl)
    (of_decide_eq_true (by kernel_rfl)) (by unfold Func.isWrapper; first | (rw [if_pos (by decide +kernel)]; kernel_rfl) | (rw [if_neg (by decide +kernel)]; exact ⟨rfl, rfl⟩))
    (fun os started H enc _ => fileNeeds_lifted os started H enc)
set_option maxRecDepth 100000 in
theorem fileMerges_lifted (os : Os) (started : os.Started) (H : Type) (enc : TypeId × Value → H) :
    ReturnsInHanded {} Try.checked os 4 .any (Rows.fileMergesSpec.pre6 enc Try.prog Try.f4 Rows.fileMergesRow.domain false) (Rows.fileMergesSpec.post enc Try.prog Try.f4 false true false false) := by
  refine returnsInHanded_of_change (C := Try.checked) own_ started (by kernel_rfl) Try.func4
    (ChangeSpec.witness6 (enc := enc) (C := Try.checked) false ⟨#[], #[.int .u64 0, .int .i64 0, .string ⟨#[]⟩], []⟩ 8 (by kernel_rfl) (by kernel_rfl) (by kernel_rfl) (by kernel_rfl)) ?_
  intro W base args ds gs before hval0 hW hcnd _
  have hval : ∀ (j : Nat) t v, Try.f4.params[j]? = some t → args[j]? = some v → Value.okWide Try.prog W .any base t v := hval0
  have hW' := hW
  obtain ⟨p, q, hA0, hV, rfl, hfz, hnd⟩ := hW
  have hA : DataW.TrodAll enc Try.prog W 0 (fun _ => true) true Try.f4.params.toList args.toList ds p := hA0
  rw [Try.params4] at hA hval
  obtain ⟨v0, v1, v2, d0, d1, d2, p0, p1, p2, rfl, rfl, rfl, h0, h1, h2⟩ := trodAll_three hA
  obtain ⟨w, rfl, hw⟩ := (opn_nat (k := .u64) rfl rfl) (hval 0 34 v0 rfl rfl) h0
  obtain ⟨f, rfl, hf⟩ := (opn_int (k := .i64) rfl) (hval 1 3 v1 rfl rfl) h1
  obtain ⟨s, rfl⟩ := (opn_str rfl) (hval 2 9 v2 rfl rfl) h2
  clear hA0 hval0
  refine (merges_law (hp W) w f s (u64lt hw)).below.mono fun e W' ⟨hb, v, R', h', he, hv⟩ => ?_
  subst he; subst hv
  exact ⟨_, rfl, post_true (tb := 4) laid_ (of_decide_eq_true (by kernel_rfl)) rfl rfl rfl rfl rfl rfl hW' hb⟩
theorem fileMerges_holds : Rows.FileMergesSaid :=
  OpenClaim.holds_of_wide 4 Try.f4 rfl rfl rfl rfl rfl rfl rfl ⟨rfl, rfl, rfl, rfl, rfl⟩ rfl rfl rfl rfl rfl (by kernel_rfl) Try.func4 (by kernel_rfl)
    (of_decide_eq_true (by kernel_rfl)) (by unfold Func.isWrapper; first | (rw [if_pos (by decide +kernel)]; kernel_rfl) | (rw [if_neg (by decide +kernel)]; exact ⟨rfl, rfl⟩))
    (fun os started H enc _ => fileMerges_lifted os started H enc)
set_option maxRecDepth 100000 in
theorem fileCuts_lifted (os : Os) (started : os.Started) (H : Type) (enc : TypeId × Value → H) :
    ReturnsInHanded {} Try.checked os 5 .any (Rows.fileCutsSpec.pre6 enc Try.prog Try.f5 Rows.fileCutsRow.domain false) (Rows.fileCutsSpec.post enc Try.prog Try.f5 false true false false) := by
  refine returnsInHanded_of_change (C := Try.checked) own_ started (by kernel_rfl) Try.func5
    (ChangeSpec.witness6 (enc := enc) (C := Try.checked) false ⟨#[], #[.slice none 0 0, .int .i64 0], []⟩ 8 (by kernel_rfl) (by kernel_rfl) (by kernel_rfl) (by kernel_rfl)) ?_
  intro W base args ds gs before hval0 hW hcnd _
  have hval : ∀ (j : Nat) t v, Try.f5.params[j]? = some t → args[j]? = some v → Value.okWide Try.prog W .any base t v := hval0
  have hW' := hW
  obtain ⟨p, q, hA0, hV, rfl, hfz, hnd⟩ := hW
  have hA : DataW.TrodAll enc Try.prog W 0 (fun _ => true) true Try.f5.params.toList args.toList ds p := hA0
  rw [Try.params5] at hA hval
  obtain ⟨v0, v1, d0, d1, p0, p1, rfl, rfl, rfl, h0, h1⟩ := trodAll_two hA
  obtain ⟨m, hm⟩ := open_ints (hval 0 22 v0 rfl rfl) h0
  obtain ⟨z, rfl, hz⟩ := (opn_int (k := .i64) rfl) (hval 1 2 v1 rfl rfl) h1
  clear hA0 hval0
  refine (cuts_law (hp W) m v0 z hm).below.mono fun e W' ⟨hb, v, R', h', he, hv⟩ => ?_
  subst he; subst hv
  exact ⟨_, rfl, post_true (tb := 4) laid_ (of_decide_eq_true (by kernel_rfl)) rfl rfl rfl rfl rfl rfl hW' hb⟩
theorem fileCuts_holds : Rows.FileCutsSaid :=
  OpenClaim.holds_of_wide 5 Try.f5 rfl rfl rfl rfl rfl rfl rfl ⟨rfl, rfl, rfl, rfl, rfl⟩ rfl rfl rfl rfl rfl (by kernel_rfl) Try.func5 (by kernel_rfl)
    (of_decide_eq_true (by kernel_rfl)) (by unfold Func.isWrapper; first | (rw [if_pos (by decide +kernel)]; kernel_rfl) | (rw [if_neg (by decide +kernel)]; exact ⟨rfl, rfl⟩))
    (fun os started H enc _ => fileCuts_lifted os started H enc)
end Go.Proofs.Ytoocbfpomamdeaa
