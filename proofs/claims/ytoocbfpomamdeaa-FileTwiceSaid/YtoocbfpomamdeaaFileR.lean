/- Files: the pieces are the text, merged into words they are read again as the text; what is cut off twice is what is cut off at once: the rows. -/
import Derived.Test.YtoocbfpomamdeaaFileO
import Derived.Test.YtoocbfpomamdeaaFileQ
namespace Go.Proofs.Ytoocbfpomamdeaa
set_option maxRecDepth 4000
open Go Go.Par PH Go.ChangeShapes Go.WideShapes Go.ChangeAt Go.RowKit
theorem u8le {w : Nat} (h : (w : Int) ≤ IntKind.u8.max) : w ≤ 255 := by
  rw [show IntKind.u8.max = 255 from rfl] at h; omega
theorem u16le {w : Nat} (h : (w : Int) ≤ IntKind.u16.max) : w ≤ 65535 := by
  rw [show IntKind.u16.max = 65535 from rfl] at h; omega
set_option maxRecDepth 100000 in
theorem fileWhole_lifted (os : Os) (started : os.Started) (H : Type) (enc : TypeId × Value → H) :
    ReturnsInHanded {} Try.checked os 6 .any (Rows.fileWholeSpec.pre6 enc Try.prog Try.f6 Rows.fileWholeRow.domain false) (Rows.fileWholeSpec.post enc Try.prog Try.f6 false true false false) := by
  refine returnsInHanded_of_change (C := Try.checked) own_ started (by kernel_rfl) Try.func6
    (ChangeSpec.witness6 (enc := enc) (C := Try.checked) false ⟨#[], #[.int .u8 0, .int .u16 0, .string ⟨#[]⟩], []⟩ 8 (by kernel_rfl) (by kernel_rfl) (by kernel_rfl) (by kernel_rfl)) ?_
  intro W base args ds gs before hval0 hW hcnd _
  have hval : ∀ (j : Nat) t v, Try.f6.params[j]? = some t → args[j]? = some v → Value.okWide Try.prog W .any base t v := hval0
  have hW' := hW
  obtain ⟨p, q, hA0, hV, rfl, hfz, hnd⟩ := hW
  have hA : DataW.TrodAll enc Try.prog W 0 (fun _ => true) true Try.f6.params.toList args.toList ds p := hA0
  rw [Try.params6] at hA hval
  obtain ⟨v0, v1, v2, d0, d1, d2, p0, p1, p2, rfl, rfl, rfl, h0, h1, h2⟩ := trodAll_three hA
  obtain ⟨fr, rfl, hf⟩ := (opn_nat (k := .u8) rfl rfl) (hval 0 5 v0 rfl rfl) h0
  obtain ⟨o, rfl, ho⟩ := (opn_nat (k := .u16) rfl rfl) (hval 1 41 v1 rfl rfl) h1
  obtain ⟨s, rfl⟩ := (opn_str rfl) (hval 2 9 v2 rfl rfl) h2
  clear hA0 hval0
  refine (whole_law (hp W) fr o s (u8le hf) (u16le ho)).below.mono fun e W' ⟨hb, v, R', h', he, hv⟩ => ?_
  subst he; subst hv
  exact ⟨_, rfl, post_true (tb := 4) laid_ (of_decide_eq_true (by kernel_rfl)) rfl rfl rfl rfl rfl rfl hW' hb⟩
theorem fileWhole_holds : Rows.FileWholeSaid :=
  OpenClaim.holds_of_wide 6 Try.f6 rfl rfl rfl rfl rfl rfl rfl ⟨rfl, rfl, rfl, rfl, rfl⟩ rfl rfl rfl rfl rfl (by kernel_rfl) Try.func6 (by kernel_rfl)
    (of_decide_eq_true (by kernel_rfl)) (by unfold Func.isWrapper; first | (rw [if_pos (by decide +kernel)]; kernel_rfl) | (rw [if_neg (by decide +kernel)]; exact ⟨rfl, rfl⟩))
    (fun os started H enc _ => fileWhole_lifted os started H enc)
set_option maxRecDepth 100000 in
theorem fileTwice_lifted (os : Os) (started : os.Started) (H : Type) (enc : TypeId × Value → H) :
    ReturnsInHanded {} Try.checked os 7 .any (Rows.fileTwiceSpec.pre6 enc Try.prog Try.f7 Rows.fileTwiceRow.domain false) (Rows.fileTwiceSpec.post enc Try.prog Try.f7 false true false false) := by
  refine returnsInHanded_of_change (C := Try.checked) own_ started (by kernel_rfl) Try.func7
    (ChangeSpec.witness6 (enc := enc) (C := Try.checked) false ⟨#[], #[.slice none 0 0, .int .u16 0, .int .u16 0], []⟩ 8 (by kernel_rfl) (by kernel_rfl) (by kernel_rfl) (by kernel_rfl)) ?_
  intro W base args ds gs before hval0 hW hcnd _
  have hval : ∀ (j : Nat) t v, Try.f7.params[j]? = some t → args[j]? = some v → Value.okWide Try.prog W .any base t v := hval0
  have hW' := hW
  obtain ⟨p, q, hA0, hV, rfl, hfz, hnd⟩ := hW
  have hA : DataW.TrodAll enc Try.prog W 0 (fun _ => true) true Try.f7.params.toList args.toList ds p := hA0
  rw [Try.params7] at hA hval
  obtain ⟨v0, v1, v2, d0, d1, d2, p0, p1, p2, rfl, rfl, rfl, h0, h1, h2⟩ := trodAll_three hA
  obtain ⟨m, hm⟩ := open_ints (hval 0 22 v0 rfl rfl) h0
  obtain ⟨a, rfl, ha⟩ := (opn_nat (k := .u16) rfl rfl) (hval 1 41 v1 rfl rfl) h1
  obtain ⟨b, rfl, hb⟩ := (opn_nat (k := .u16) rfl rfl) (hval 2 41 v2 rfl rfl) h2
  clear hA0 hval0
  refine (twice_law (hp W) m v0 a b hm (u16le ha) (u16le hb)).below.mono fun e W' ⟨hb, v, R', h', he, hv⟩ => ?_
  subst he; subst hv
  exact ⟨_, rfl, post_true (tb := 4) laid_ (of_decide_eq_true (by kernel_rfl)) rfl rfl rfl rfl rfl rfl hW' hb⟩
theorem fileTwice_holds : Rows.FileTwiceSaid :=
  OpenClaim.holds_of_wide 7 Try.f7 rfl rfl rfl rfl rfl rfl rfl ⟨rfl, rfl, rfl, rfl, rfl⟩ rfl rfl rfl rfl rfl (by kernel_rfl) Try.func7 (by kernel_rfl)
    (of_decide_eq_true (by kernel_rfl)) (by unfold Func.isWrapper; first | (rw [if_pos (by decide +kernel)]; kernel_rfl) | (rw [if_neg (by decide +kernel)]; exact ⟨rfl, rfl⟩))
    (fun os started H enc _ => fileTwice_lifted os started H enc)
end Go.Proofs.Ytoocbfpomamdeaa
