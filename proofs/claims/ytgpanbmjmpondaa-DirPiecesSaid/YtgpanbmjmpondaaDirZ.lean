/- Directories: the row on names put and taken. -/
import Derived.Test.YtgpanbmjmpondaaDirY
namespace Go.Proofs.Ytgpanbmjmpondaa
set_option maxRecDepth 4000
open Go Go.Par PH Go.ChangeShapes Go.WideShapes Go.ChangeAt Go.RowKit
theorem open_slo {H : Type} {enc : TypeId × Value → H} {W : World} {r : Reach} {base : Nat} {sp : Nat → Bool} {held : Bool} {v : Value} {d : DataW H} {ps : List MemPlace} (hval : Value.okWide Try.prog W r base 34 v)
    (hd : DataW.Trod enc Try.prog W 0 sp held 34 v d ps) : ∃ x, v = sloV x := by
  obtain ⟨fuel, hd⟩ := hd
  obtain ⟨x, e, _⟩ := opnSlo hd
  obtain ⟨cs, rfl, _⟩ : ∃ cs, v = .agg cs ∧ _ := hval
  have e : cs.toList = encSlo x := e
  have : cs = (encSlo x).toArray := by rw [← e]
  exact ⟨x, by rw [this]; rfl⟩
theorem turns_law' (h : PH) (v : Value) (d : Dr) (x : Slo) (s : ByteArray) (hv : DrV h v d) : Does Try.prog 4 [v, sloV x, .string s] [] h (Ret fun r _ _ => r = .bool true) := by
  rw [mkB_of s]; exact turns_law h v d x _ hv
set_option maxRecDepth 100000 in
theorem dirTurns_lifted (os : Os) (started : os.Started) (H : Type) (enc : TypeId × Value → H) :
    ReturnsInHanded {} Try.checked os 4 .any (Rows.dirTurnsSpec.pre6 enc Try.prog Try.f4 Rows.dirTurnsRow.domain false) (Rows.dirTurnsSpec.post enc Try.prog Try.f4 false true false false) := by
  refine returnsInHanded_of_change (C := Try.checked) own_ started (by kernel_rfl) Try.func4
    (ChangeSpec.witness6 (enc := enc) (C := Try.checked) false ⟨#[], #[.agg #[.slice none 0 0, .slice none 0 0, .slice none 0 0, .slice none 0 0], .agg #[.int .i64 0, .int .u8 0, .string ⟨#[]⟩], .string ⟨#[]⟩], []⟩ 8 (by kernel_rfl) (by kernel_rfl) (by kernel_rfl) (by kernel_rfl)) ?_
  intro W base args ds gs before hval0 hW hcnd _
  have hval : ∀ (j : Nat) t v, Try.f4.params[j]? = some t → args[j]? = some v → Value.okWide Try.prog W .any base t v := hval0
  have hW' := hW
  obtain ⟨p, q, hA0, hV, rfl, hfz, hnd⟩ := hW
  have hA : DataW.TrodAll enc Try.prog W 0 (fun _ => true) true Try.f4.params.toList args.toList ds p := hA0
  rw [Try.params4] at hA hval
  obtain ⟨v0, v1, v2, d0, d1, d2, p0, p1, p2, rfl, rfl, rfl, h0, h1, h2⟩ := trodAll_three hA
  obtain ⟨d, hv⟩ := open_dir (hval 0 25 v0 rfl rfl) h0
  obtain ⟨x, rfl⟩ := open_slo (hval 1 34 v1 rfl rfl) h1
  obtain ⟨s, rfl⟩ := (opn_str rfl) (hval 2 9 v2 rfl rfl) h2
  clear hA0 hval0
  refine (turns_law' (hp W) v0 d x s hv).below.mono fun e W' ⟨hb, v, R', h', he, hv⟩ => ?_
  subst he; subst hv
  exact ⟨_, rfl, post_true (tb := 4) laid_ (of_decide_eq_true (by kernel_rfl)) rfl rfl rfl rfl rfl rfl hW' hb⟩
theorem dirTurns_holds : Rows.DirTurnsSaid :=
  OpenClaim.holds_of_wide 4 Try.f4 rfl rfl rfl rfl rfl rfl rfl ⟨rfl, rfl, rfl, rfl, rfl⟩ rfl rfl rfl rfl rfl (by kernel_rfl) Try.func4 (by kernel_rfl)
    (of_decide_eq_true (by kernel_rfl)) (by unfold Func.isWrapper; first | (rw [if_pos (by decide +kernel)]; kernel_rfl) | (rw [if_neg (by decide +kernel)]; exact ⟨rfl, rfl⟩))
    (fun os started H enc _ => dirTurns_lifted os started H enc)
end Go.Proofs.Ytgpanbmjmpondaa
