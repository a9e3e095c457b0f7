/- Locks: the row on scripts. -/
import Derived.Test.YtgbcdjofkfdgnaaLockT
import Derived.Test.YtgbcdjofkfdgnaaLockI
namespace Go.Proofs.Ytgbcdjofkfdgnaa
open Go Go.Par PH Go.ChangeShapes Go.WideShapes Go.ChangeAt Go.RowKit
theorem opnT : Opn Try.prog 31 fun _ cs (x : StepT) => cs = encT x ∧ True := by
  intro H enc W sp held fuel cs x h
  obtain ⟨hl, hf⟩ := trod_fields (fs := _) rfl h
  have hl : cs.length = 3 := hl
  match cs, hl with
  | [c0, c1, c2], _ =>
    obtain ⟨_, _, f0⟩ := hf _ (.head _)
    obtain ⟨_, _, f1⟩ := hf _ (.tail _ (.head _))
    obtain ⟨_, _, f2⟩ := hf _ (.tail _ (.tail _ (.head _)))
    obtain ⟨a, e0⟩ := Opn_bool rfl f0
    obtain ⟨b, e1, h1⟩ := Opn_int (k := .i64) rfl f1
    obtain ⟨c, e2, h2⟩ := Opn_int (k := .i64) rfl f2
    have e0 : [c0] = [.bool a] := e0
    have e1 : [c1] = [.int .i64 b] := e1
    have e2 : [c2] = [.int .i64 c] := e2
    cases e0; cases e1; cases e2
    exact ⟨⟨a, b, c⟩, rfl, trivial⟩
theorem opnTs : Opn Try.prog 22 fun h cs (p : Value × List StepT) => cs = [p.1] ∧ Sl encT 3 h p.1 p.2 ∧ ∀ x ∈ p.2, True := Opn_slice rfl rfl (by decide) opnT
theorem open_steps {H : Type} {enc : TypeId × Value → H} {W : World} {r : Reach} {base : Nat} {sp : Nat → Bool} {held : Bool} {v : Value} {d : DataW H} {ps : List MemPlace} (hval : Value.okWide Try.prog W r base 22 v)
    (hd : DataW.Trod enc Try.prog W 0 sp held 22 v d ps) : ∃ l, Sl encT 3 (hp W) v l := by
  obtain ⟨fuel, hd⟩ := hd
  obtain ⟨⟨u, l⟩, e, hs, hok⟩ := opnTs hd
  obtain ⟨a, m, cap, rfl⟩ := okWide_slice (e := 31) rfl hval
  have e : [Value.slice a m cap] = [u] := e
  cases e
  exact ⟨l, hs⟩
set_option maxRecDepth 100000 in
theorem lockPlays_lifted (os : Os) (started : os.Started) (H : Type) (enc : TypeId × Value → H) :
    ReturnsInHanded {} Try.checked os 3 .any (Rows.lockPlaysSpec.pre6 enc Try.prog Try.f3 Rows.lockPlaysRow.domain false) (Rows.lockPlaysSpec.post enc Try.prog Try.f3 false true false false) := by
  refine returnsInHanded_of_change (C := Try.checked) own_ started (by kernel_rfl) Try.func3
    (ChangeSpec.witness6 (enc := enc) (C := Try.checked) false ⟨#[], #[.int .i64 0, .int .i64 0, .slice none 0 0], []⟩ 8 (by kernel_rfl) (by kernel_rfl) (by kernel_rfl) (by kernel_rfl)) ?_
  intro W base args ds gs before hval0 hW hcnd _
  have hval : ∀ (j : Nat) t v, Try.f3.params[j]? = some t → args[j]? = some v → Value.okWide Try.prog W .any base t v := hval0
  have hW' := hW
  obtain ⟨p, q, hA0, hV, rfl, hfz, hnd⟩ := hW
  have hA : DataW.TrodAll enc Try.prog W 0 (fun _ => true) true Try.f3.params.toList args.toList ds p := hA0
  rw [Try.params3] at hA hval
  obtain ⟨v0, v1, v2, d0, d1, d2, p0, p1, p2, rfl, rfl, rfl, h0, h1, h2⟩ := trodAll_three hA
  obtain ⟨m, rfl, mo⟩ := (open_i64 rfl) (hval 0 3 v0 rfl rfl) h0
  obtain ⟨procs, rfl, po⟩ := (open_i64 rfl) (hval 1 3 v1 rfl rfl) h1
  obtain ⟨l, hl⟩ := open_steps (hval 2 22 v2 rfl rfl) h2
  clear hA0 hval0
  refine (plays_law (hp W) m procs l v2 hl).below.mono fun e W' ⟨hb, v, R', h', he, hv⟩ => ?_
  subst he; subst hv
  exact ⟨_, rfl, post_true (tb := 4) laid_ (of_decide_eq_true (by kernel_rfl)) rfl rfl rfl rfl rfl rfl hW' hb⟩
theorem lockPlays_holds : Rows.LockPlaysSaid :=
  OpenClaim.holds_of_wide 3 Try.f3 rfl rfl rfl rfl rfl rfl rfl ⟨rfl, rfl, rfl, rfl, rfl⟩ rfl rfl rfl rfl rfl (by kernel_rfl) Try.func3 (by kernel_rfl)
    (of_decide_eq_true (by kernel_rfl)) (by unfold Func.isWrapper; first | (rw [if_pos (by decide +kernel)]; kernel_rfl) | (rw [if_neg (by decide +kernel)]; exact ⟨rfl, rfl⟩))
    (fun os started H enc _ => lockPlays_lifted os started H enc)
end Go.Proofs.Ytgbcdjofkfdgnaa
