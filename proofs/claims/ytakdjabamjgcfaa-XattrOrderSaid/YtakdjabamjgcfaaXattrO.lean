/- Values under keys: what is set, what is asked, what a setting keeps, that the order of settings is nothing: the rows. -/
import Derived.Test.YtakdjabamjgcfaaXattrN
import Derived.Test.YtakdjabamjgcfaaRowC
namespace Go.Proofs.Ytakdjabamjgcfaa
set_option maxRecDepth 4000
open Go Go.Par PH Go.ChangeShapes Go.WideShapes Go.ChangeAt Go.RowKit
theorem opnX : Opn Try.prog 42 fun _ cs (a : ByteArray × ByteArray) => cs = encX a ∧ True := by
  intro H enc W sp held fuel cs x h
  obtain ⟨hl, hf⟩ := trod_fields (fs := _) rfl h
  have hl : cs.length = 2 := hl
  match cs, hl with
  | [c0, c1], _ =>
    obtain ⟨_, _, f0⟩ := hf _ (.head _)
    obtain ⟨_, _, f1⟩ := hf _ (.tail _ (.head _))
    obtain ⟨a, e0, h0⟩ := Opn_string rfl f0
    obtain ⟨b, e1, h1⟩ := Opn_string rfl f1
    have e0 : [c0] = [.string a] := e0
    have e1 : [c1] = [.string b] := e1
    cases e0; cases e1
    exact ⟨(a, b), rfl, trivial⟩
theorem opnXs : Opn Try.prog 22 fun h cs (p : Value × List (ByteArray × ByteArray)) => cs = [p.1] ∧ Sl encX 2 h p.1 p.2 ∧ ∀ a ∈ p.2, True := Opn_slice rfl rfl (by decide) opnX
theorem open_xs {H : Type} {enc : TypeId × Value → H} {W : World} {r : Reach} {base : Nat} {sp : Nat → Bool} {held : Bool} {v : Value} {d : DataW H} {ps : List MemPlace} (hval : Value.okWide Try.prog W r base 22 v)
    (hd : DataW.Trod enc Try.prog W 0 sp held 22 v d ps) : ∃ l : Xs, Sl encX 2 (hp W) v l := by
  obtain ⟨fuel, hd⟩ := hd
  obtain ⟨⟨u, l⟩, e, hs, hok⟩ := opnXs hd
  obtain ⟨a, m, cap, rfl⟩ := okWide_slice (e := 42) rfl hval
  have e : [Value.slice a m cap] = [u] := e
  cases e
  exact ⟨l, hs⟩
set_option maxRecDepth 100000 in
theorem xattrSets_lifted (os : Os) (started : os.Started) (H : Type) (enc : TypeId × Value → H) :
    ReturnsInHanded {} Try.checked os 3 .any (Rows.xattrSetsSpec.pre6 enc Try.prog Try.f3 Rows.xattrSetsRow.domain false) (Rows.xattrSetsSpec.post enc Try.prog Try.f3 false true false false) := by
  refine returnsInHanded_of_change (C := Try.checked) own_ started (by kernel_rfl) Try.func3
    (ChangeSpec.witness6 (enc := enc) (C := Try.checked) false ⟨#[], #[.slice none 0 0, .string ⟨#[]⟩, .string ⟨#[]⟩, .int .u8 0], []⟩ 8 (by kernel_rfl) (by kernel_rfl) (by kernel_rfl) (by kernel_rfl)) ?_
  intro W base args ds gs before hval0 hW hcnd _
  have hval : ∀ (j : Nat) t v, Try.f3.params[j]? = some t → args[j]? = some v → Value.okWide Try.prog W .any base t v := hval0
  have hW' := hW
  obtain ⟨p, q, hA0, hV, rfl, hfz, hnd⟩ := hW
  have hA : DataW.TrodAll enc Try.prog W 0 (fun _ => true) true Try.f3.params.toList args.toList ds p := hA0
  rw [Try.params3] at hA hval
  obtain ⟨v0, v1, v2, v3, d0, d1, d2, d3, p0, p1, p2, p3, rfl, rfl, rfl, h0, h1, h2, h3⟩ := trodAll_four hA
  obtain ⟨l, hl⟩ := open_xs (hval 0 22 v0 rfl rfl) h0
  obtain ⟨k, rfl⟩ := (opn_str rfl) (hval 1 9 v1 rfl rfl) h1
  obtain ⟨z, rfl⟩ := (opn_str rfl) (hval 2 9 v2 rfl rfl) h2
  obtain ⟨how, rfl, hh⟩ := (opn_int (k := .u8) rfl) (hval 3 5 v3 rfl rfl) h3
  clear hA0 hval0
  refine (sets_fn (hp W) l v0 k z how hl).below.mono fun e W' ⟨hb, v, R', h', he, hv⟩ => ?_
  subst he; subst hv
  exact ⟨_, rfl, post_true (tb := 4) laid_ (of_decide_eq_true (by kernel_rfl)) rfl rfl rfl rfl rfl rfl hW' hb⟩
theorem xattrSets_holds : Rows.XattrSetsSaid :=
  OpenClaim.holds_of_wide 3 Try.f3 rfl rfl rfl rfl rfl rfl rfl ⟨rfl, rfl, rfl, rfl, rfl⟩ rfl rfl rfl rfl rfl (by kernel_rfl) Try.func3 (by kernel_rfl)
    (of_decide_eq_true (by kernel_rfl)) (by unfold Func.isWrapper; first | (rw [if_pos (by decide +kernel)]; kernel_rfl) | (rw [if_neg (by decide +kernel)]; exact ⟨rfl, rfl⟩))
    (fun os started H enc _ => xattrSets_lifted os started H enc)
set_option maxRecDepth 100000 in
theorem xattrAsks_lifted (os : Os) (started : os.Started) (H : Type) (enc : TypeId × Value → H) :
    ReturnsInHanded {} Try.checked os 4 .any (Rows.xattrAsksSpec.pre6 enc Try.prog Try.f4 Rows.xattrAsksRow.domain false) (Rows.xattrAsksSpec.post enc Try.prog Try.f4 false true false false) := by
  refine returnsInHanded_of_change (C := Try.checked) own_ started (by kernel_rfl) Try.func4
    (ChangeSpec.witness6 (enc := enc) (C := Try.checked) false ⟨#[], #[.slice none 0 0, .string ⟨#[]⟩], []⟩ 8 (by kernel_rfl) (by kernel_rfl) (by kernel_rfl) (by kernel_rfl)) ?_
  intro W base args ds gs before hval0 hW hcnd _
  have hval : ∀ (j : Nat) t v, Try.f4.params[j]? = some t → args[j]? = some v → Value.okWide Try.prog W .any base t v := hval0
  have hW' := hW
  obtain ⟨p, q, hA0, hV, rfl, hfz, hnd⟩ := hW
  have hA : DataW.TrodAll enc Try.prog W 0 (fun _ => true) true Try.f4.params.toList args.toList ds p := hA0
  rw [Try.params4] at hA hval
  obtain ⟨v0, v1, d0, d1, p0, p1, rfl, rfl, rfl, h0, h1⟩ := trodAll_two hA
  obtain ⟨l, hl⟩ := open_xs (hval 0 22 v0 rfl rfl) h0
  obtain ⟨k, rfl⟩ := (opn_str rfl) (hval 1 9 v1 rfl rfl) h1
  clear hA0 hval0
  refine (asks_fn (hp W) l v0 k hl).below.mono fun e W' ⟨hb, v, R', h', he, hv⟩ => ?_
  subst he; subst hv
  exact ⟨_, rfl, post_true (tb := 4) laid_ (of_decide_eq_true (by kernel_rfl)) rfl rfl rfl rfl rfl rfl hW' hb⟩
theorem xattrAsks_holds : Rows.XattrAsksSaid :=
  OpenClaim.holds_of_wide 4 Try.f4 rfl rfl rfl rfl rfl rfl rfl ⟨rfl, rfl, rfl, rfl, rfl⟩ rfl rfl rfl rfl rfl (by kernel_rfl) Try.func4 (by kernel_rfl)
    (of_decide_eq_true (by kernel_rfl)) (by unfold Func.isWrapper; first | (rw [if_pos (by decide +kernel)]; kernel_rfl) | (rw [if_neg (by decide +kernel)]; exact ⟨rfl, rfl⟩))
    (fun os started H enc _ => xattrAsks_lifted os started H enc)
set_option maxRecDepth 100000 in
theorem xattrKeeps_lifted (os : Os) (started : os.Started) (H : Type) (enc : TypeId × Value → H) :
    ReturnsInHanded {} Try.checked os 5 .any (Rows.xattrKeepsSpec.pre6 enc Try.prog Try.f5 Rows.xattrKeepsRow.domain false) (Rows.xattrKeepsSpec.post enc Try.prog Try.f5 false true false false) := by
  refine returnsInHanded_of_change (C := Try.checked) own_ started (by kernel_rfl) Try.func5
    (ChangeSpec.witness6 (enc := enc) (C := Try.checked) false ⟨#[], #[.slice none 0 0, .string ⟨#[]⟩, .string ⟨#[]⟩, .string ⟨#[]⟩], []⟩ 8 (by kernel_rfl) (by kernel_rfl) (by kernel_rfl) (by kernel_rfl)) ?_
  intro W base args ds gs before hval0 hW hcnd _
  have hval : ∀ (j : Nat) t v, Try.f5.params[j]? = some t → args[j]? = some v → Value.okWide Try.prog W .any base t v := hval0
  have hW' := hW
  obtain ⟨p, q, hA0, hV, rfl, hfz, hnd⟩ := hW
  have hA : DataW.TrodAll enc Try.prog W 0 (fun _ => true) true Try.f5.params.toList args.toList ds p := hA0
  rw [Try.params5] at hA hval
  obtain ⟨v0, v1, v2, v3, d0, d1, d2, d3, p0, p1, p2, p3, rfl, rfl, rfl, h0, h1, h2, h3⟩ := trodAll_four hA
  obtain ⟨l, hl⟩ := open_xs (hval 0 22 v0 rfl rfl) h0
  obtain ⟨k, rfl⟩ := (opn_str rfl) (hval 1 9 v1 rfl rfl) h1
  obtain ⟨o, rfl⟩ := (opn_str rfl) (hval 2 9 v2 rfl rfl) h2
  obtain ⟨z, rfl⟩ := (opn_str rfl) (hval 3 9 v3 rfl rfl) h3
  clear hA0 hval0
  refine (keeps_fn (hp W) l v0 k o z hl).below.mono fun e W' ⟨hb, v, R', h', he, hv⟩ => ?_
  subst he; subst hv
  exact ⟨_, rfl, post_true (tb := 4) laid_ (of_decide_eq_true (by kernel_rfl)) rfl rfl rfl rfl rfl rfl hW' hb⟩
theorem xattrKeeps_holds : Rows.XattrKeepsSaid :=
  OpenClaim.holds_of_wide 5 Try.f5 rfl rfl rfl rfl rfl rfl rfl ⟨rfl, rfl, rfl, rfl, rfl⟩ rfl rfl rfl rfl rfl (by kernel_rfl) Try.func5 (by kernel_rfl)
    (of_decide_eq_true (by kernel_rfl)) (by unfold Func.isWrapper; first | (rw [if_pos (by decide +kernel)]; kernel_rfl) | (rw [if_neg (by decide +kernel)]; exact ⟨rfl, rfl⟩))
    (fun os started H enc _ => xattrKeeps_lifted os started H enc)
set_option maxRecDepth 100000 in
theorem xattrOrder_lifted (os : Os) (started : os.Started) (H : Type) (enc : TypeId × Value → H) :
    ReturnsInHanded {} Try.checked os 6 .any (Rows.xattrOrderSpec.pre6 enc Try.prog Try.f6 Rows.xattrOrderRow.domain false) (Rows.xattrOrderSpec.post enc Try.prog Try.f6 false true false false) := by
  refine returnsInHanded_of_change (C := Try.checked) own_ started (by kernel_rfl) Try.func6
    (ChangeSpec.witness6 (enc := enc) (C := Try.checked) false ⟨#[], #[.slice none 0 0, .string ⟨#[]⟩, .string ⟨#[]⟩, .string ⟨#[]⟩, .string ⟨#[]⟩], []⟩ 8 (by kernel_rfl) (by kernel_rfl) (by kernel_rfl) (by kernel_rfl)) ?_
  intro W base args ds gs before hval0 hW hcnd _
  have hval : ∀ (j : Nat) t v, Try.f6.params[j]? = some t → args[j]? = some v → Value.okWide Try.prog W .any base t v := hval0
  have hW' := hW
  obtain ⟨p, q, hA0, hV, rfl, hfz, hnd⟩ := hW
  have hA : DataW.TrodAll enc Try.prog W 0 (fun _ => true) true Try.f6.params.toList args.toList ds p := hA0
  rw [Try.params6] at hA hval
  obtain ⟨v0, v1, v2, v3, v4, d0, d1, d2, d3, d4, p0, p1, p2, p3, p4, rfl, rfl, rfl, h0, h1, h2, h3, h4⟩ := trodAll_five hA
  obtain ⟨l, hl⟩ := open_xs (hval 0 22 v0 rfl rfl) h0
  obtain ⟨a, rfl⟩ := (opn_str rfl) (hval 1 9 v1 rfl rfl) h1
  obtain ⟨b, rfl⟩ := (opn_str rfl) (hval 2 9 v2 rfl rfl) h2
  obtain ⟨y, rfl⟩ := (opn_str rfl) (hval 3 9 v3 rfl rfl) h3
  obtain ⟨z, rfl⟩ := (opn_str rfl) (hval 4 9 v4 rfl rfl) h4
  clear hA0 hval0
  refine (order_fn (hp W) l v0 a b y z hl).below.mono fun e W' ⟨hb, v, R', h', he, hv⟩ => ?_
  subst he; subst hv
  exact ⟨_, rfl, post_true (tb := 4) laid_ (of_decide_eq_true (by kernel_rfl)) rfl rfl rfl rfl rfl rfl hW' hb⟩
theorem xattrOrder_holds : Rows.XattrOrderSaid :=
  OpenClaim.holds_of_wide 6 Try.f6 rfl rfl rfl rfl rfl rfl rfl ⟨rfl, rfl, rfl, rfl, rfl⟩ rfl rfl rfl rfl rfl (by kernel_rfl) Try.func6 (by kernel_rfl)
    (of_decide_eq_true (by kernel_rfl)) (by unfold Func.isWrapper; first | (rw [if_pos (by decide +kernel)]; kernel_rfl) | (rw [if_neg (by decide +kernel)]; exact ⟨rfl, rfl⟩))
    (fun os started H enc _ => xattrOrder_lifted os started H enc)
end Go.Proofs.Ytakdjabamjgcfaa
