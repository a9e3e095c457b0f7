/- Words ahead: lists opened; the row on no table. -/
import Derived.Test.YtmohiefnoflndaaAheadE
import Derived.Test.YtmohiefnoflndaaRowC
namespace Go.Proofs.Ytmohiefnoflndaa
set_option maxRecDepth 4000
open Go Go.Par PH Go.ChangeShapes Go.WideShapes Go.ChangeAt Go.RowKit
theorem opnR : Opn Try.prog 38 fun _ cs (a : Int × Int) => cs = encR a ∧ (-9223372036854775808 ≤ a.1 ∧ a.1 ≤ 9223372036854775807) := by
  intro H enc W sp held fuel cs x h
  obtain ⟨hl, hf⟩ := trod_fields (fs := _) rfl h
  have hl : cs.length = 2 := hl
  match cs, hl with
  | [c0, c1], _ =>
    obtain ⟨_, _, f0⟩ := hf _ (.head _)
    obtain ⟨_, _, f1⟩ := hf _ (.tail _ (.head _))
    obtain ⟨a, e0, ha⟩ := Opn_int (k := .i64) rfl f0
    obtain ⟨b, e1, hb⟩ := Opn_int (k := .u64) rfl f1
    have e0 : [c0] = [.int .i64 a] := e0
    have e1 : [c1] = [.int .u64 b] := e1
    cases e0; cases e1
    exact ⟨⟨a, b⟩, rfl, ha⟩
theorem opnRs : Opn Try.prog 28 fun h cs (p : Value × List (Int × Int)) => cs = [p.1] ∧ Sl encR 2 h p.1 p.2 ∧ ∀ a ∈ p.2, (-9223372036854775808 ≤ a.1 ∧ a.1 ≤ 9223372036854775807) := Opn_slice rfl rfl (by decide) opnR
theorem open_redo {H : Type} {enc : TypeId × Value → H} {W : World} {r : Reach} {base : Nat} {sp : Nat → Bool} {held : Bool} {v : Value} {d : DataW H} {ps : List MemPlace} (hval : Value.okWide Try.prog W r base 28 v)
    (hd : DataW.Trod enc Try.prog W 0 sp held 28 v d ps) : ∃ l, Sl encR 2 (hp W) v l ∧ ∀ a ∈ l, (-9223372036854775808 ≤ a.1 ∧ a.1 ≤ 9223372036854775807) := by
  obtain ⟨fuel, hd⟩ := hd
  obtain ⟨⟨u, l⟩, e, hs, hok⟩ := opnRs hd
  obtain ⟨a, m, cap, rfl⟩ := okWide_slice (e := 38) rfl hval
  have e : [Value.slice a m cap] = [u] := e
  cases e
  exact ⟨l, hs, hok⟩
set_option maxRecDepth 100000 in
theorem aheadNil_lifted (os : Os) (started : os.Started) (H : Type) (enc : TypeId × Value → H) :
    ReturnsInHanded {} Try.checked os 6 .any (Rows.aheadNilSpec.pre6 enc Try.prog Try.f6 Rows.aheadNilRow.domain false) (Rows.aheadNilSpec.post enc Try.prog Try.f6 false true false false) := by
  refine returnsInHanded_of_change (C := Try.checked) own_ started (by kernel_rfl) Try.func6
    (ChangeSpec.witness6 (enc := enc) (C := Try.checked) false ⟨#[], #[.slice none 0 0, .int .i64 0, .int .u64 0], []⟩ 8 (by kernel_rfl) (by kernel_rfl) (by kernel_rfl) (by kernel_rfl)) ?_
  intro W base args ds gs before hval0 hW hcnd _
  have hval : ∀ (j : Nat) t v, Try.f6.params[j]? = some t → args[j]? = some v → Value.okWide Try.prog W .any base t v := hval0
  have hW' := hW
  obtain ⟨p, q, hA0, hV, rfl, hfz, hnd⟩ := hW
  have hA : DataW.TrodAll enc Try.prog W 0 (fun _ => true) true Try.f6.params.toList args.toList ds p := hA0
  rw [Try.params6] at hA hval
  obtain ⟨v0, v1, v2, d0, d1, d2, p0, p1, p2, rfl, rfl, rfl, h0, h1, h2⟩ := trodAll_three hA
  obtain ⟨l, hv, _⟩ := open_redo (hval 0 28 v0 rfl rfl) h0
  obtain ⟨k, rfl, _, _⟩ := (opn_int rfl) (hval 1 3 v1 rfl rfl) h1
  obtain ⟨b, rfl, _, _⟩ := (opn_int rfl) (hval 2 31 v2 rfl rfl) h2
  clear hA0 hval0
  refine (nil_law (hp W) v0 l k b hv).below.mono fun e W' ⟨hb, v, R', h', he, hv⟩ => ?_
  subst he; subst hv
  exact ⟨_, rfl, post_true (tb := 4) laid_ (of_decide_eq_true (by kernel_rfl)) rfl rfl rfl rfl rfl rfl hW' hb⟩
theorem aheadNil_holds : Rows.AheadNilSaid :=
  OpenClaim.holds_of_wide 6 Try.f6 rfl rfl rfl rfl rfl rfl rfl ⟨rfl, rfl, rfl, rfl, rfl⟩ rfl rfl rfl rfl rfl (by kernel_rfl) Try.func6 (by kernel_rfl)
    (of_decide_eq_true (by kernel_rfl)) (by unfold Func.isWrapper; first | (rw [if_pos (by decide +kernel)]; kernel_rfl) | (rw [if_neg (by decide +kernel)]; exact ⟨rfl, rfl⟩))
    (fun os started H enc _ => aheadNil_lifted os started H enc)
end Go.Proofs.Ytmohiefnoflndaa
