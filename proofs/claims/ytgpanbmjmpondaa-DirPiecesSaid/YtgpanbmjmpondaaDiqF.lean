/- Directories: the row on what is kept. -/
import Derived.Test.YtgpanbmjmpondaaDiqE
namespace Go.Proofs.Ytgpanbmjmpondaa
set_option maxRecDepth 4000
open Go Go.Par PH Go.ChangeShapes Go.WideShapes Go.ChangeAt Go.RowKit
theorem opnT : Opn Try.prog 57 fun _ cs (a : Stp) => cs = encT a ∧ (0 ≤ a.ino ∧ a.ino ≤ 255) := by
  intro H enc W sp held fuel cs x h
  obtain ⟨hl, hf⟩ := trod_fields (fs := _) rfl h
  have hl : cs.length = 3 := hl
  match cs, hl with
  | [c0, c1, c2], _ =>
    obtain ⟨_, _, f0⟩ := hf _ (.head _)
    obtain ⟨_, _, f1⟩ := hf _ (.tail _ (.head _))
    obtain ⟨_, _, f2⟩ := hf _ (.tail _ (.tail _ (.head _)))
    obtain ⟨a, e0⟩ := Opn_bool rfl f0
    obtain ⟨b, e1, hb⟩ := Opn_int (k := .u8) rfl f1
    obtain ⟨c, e2, _⟩ := Opn_string rfl f2
    have e0 : [c0] = [.bool a] := e0
    have e1 : [c1] = [.int .u8 b] := e1
    have e2 : [c2] = [.string c] := e2
    cases e0; cases e1; cases e2
    exact ⟨⟨a, b, c.data.toList⟩, by unfold encT; rw [← mkB_of c], hb⟩
theorem opnTs : Opn Try.prog 53 fun h cs (p : Value × List Stp) => cs = [p.1] ∧ Sl encT 3 h p.1 p.2 ∧ ∀ a ∈ p.2, (0 ≤ a.ino ∧ a.ino ≤ 255) := Opn_slice rfl rfl (by decide) opnT
theorem open_steps {H : Type} {enc : TypeId × Value → H} {W : World} {r : Reach} {base : Nat} {sp : Nat → Bool} {held : Bool} {v : Value} {d : DataW H} {ps : List MemPlace} (hval : Value.okWide Try.prog W r base 53 v)
    (hd : DataW.Trod enc Try.prog W 0 sp held 53 v d ps) : ∃ l, Sl encT 3 (hp W) v l ∧ ∀ t ∈ l, (0 ≤ t.ino ∧ t.ino ≤ 255) := by
  obtain ⟨fuel, hd⟩ := hd
  obtain ⟨⟨u, l⟩, e, hs, hok⟩ := opnTs hd
  obtain ⟨a, m, cap, rfl⟩ := okWide_slice (e := 57) rfl hval
  have e : [Value.slice a m cap] = [u] := e
  cases e
  exact ⟨l, hs, hok⟩
set_option maxRecDepth 100000 in
theorem dirKeeps_lifted (os : Os) (started : os.Started) (H : Type) (enc : TypeId × Value → H) :
    ReturnsInHanded {} Try.checked os 5 .any (Rows.dirKeepsSpec.pre6 enc Try.prog Try.f5 Rows.dirKeepsRow.domain false) (Rows.dirKeepsSpec.post enc Try.prog Try.f5 false true false false) := by
  refine returnsInHanded_of_change (C := Try.checked) own_ started (by kernel_rfl) Try.func5
    (ChangeSpec.witness6 (enc := enc) (C := Try.checked) false ⟨#[], #[.slice none 0 0], []⟩ 8 (by kernel_rfl) (by kernel_rfl) (by kernel_rfl) (by kernel_rfl)) ?_
  intro W base args ds gs before hval0 hW hcnd _
  have hval : ∀ (j : Nat) t v, Try.f5.params[j]? = some t → args[j]? = some v → Value.okWide Try.prog W .any base t v := hval0
  have hW' := hW
  obtain ⟨p, q, hA0, hV, rfl, hfz, hnd⟩ := hW
  have hA : DataW.TrodAll enc Try.prog W 0 (fun _ => true) true Try.f5.params.toList args.toList ds p := hA0
  rw [Try.params5] at hA hval
  obtain ⟨v0, d0, rfl, rfl, h0⟩ := trodAll_one hA
  obtain ⟨l, hv, hio⟩ := open_steps (hval 0 53 v0 rfl rfl) h0
  clear hA0 hval0
  refine (keeps_law (hp W) v0 l hv hio).below.mono fun e W' ⟨hb, v, R', h', he, hv⟩ => ?_
  subst he; subst hv
  exact ⟨_, rfl, post_true (tb := 4) laid_ (of_decide_eq_true (by kernel_rfl)) rfl rfl rfl rfl rfl rfl hW' hb⟩
theorem dirKeeps_holds : Rows.DirKeepsSaid :=
  OpenClaim.holds_of_wide 5 Try.f5 rfl rfl rfl rfl rfl rfl rfl ⟨rfl, rfl, rfl, rfl, rfl⟩ rfl rfl rfl rfl rfl (by kernel_rfl) Try.func5 (by kernel_rfl)
    (of_decide_eq_true (by kernel_rfl)) (by unfold Func.isWrapper; first | (rw [if_pos (by decide +kernel)]; kernel_rfl) | (rw [if_neg (by decide +kernel)]; exact ⟨rfl, rfl⟩))
    (fun os started H enc _ => dirKeeps_lifted os started H enc)
end Go.Proofs.Ytgpanbmjmpondaa
