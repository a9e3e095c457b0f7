/- Directories: arguments opened; the row on what is asked. -/
import Derived.Test.YtgpanbmjmpondaaDirW
import Derived.Test.YtgpanbmjmpondaaRowC
namespace Go.Par
open Go PH
theorem trod_arr {P : Program} {t e : TypeId} {n : Nat} {H : Type} {enc : TypeId × Value → H} {W : World} {sp : Nat → Bool} {held : Bool} {fuel : Nat} {cs : List Value} {x : DataW H × List MemPlace} (ht : P.underlying t = some (.array n e)) (h : DataW.trod enc P W 0 sp held fuel t cs = some x) :
    cs.length = P.cellsOf t ∧ ∀ i, i < n → ∃ fuel' y, DataW.trod enc P W 0 sp held fuel' e ((cs.drop (i * P.cellsOf e)).take (P.cellsOf e)) = some y := by
  cases fuel with
  | zero => simp [DataW.trod] at h
  | succ fuel =>
    unfold DataW.trod at h
    simp only [ht] at h
    split at h
    · rename_i hl
      refine ⟨hl, fun i hi => ?_⟩
      cases hm : ((List.range n).mapM fun i => DataW.trod enc P W 0 sp held fuel e ((cs.drop (i * P.cellsOf e)).take (P.cellsOf e))) with
      | none => rw [hm] at h; simp at h
      | some r =>
        have hlen := mapM_some_length hm
        have hg := mapM_some_get hm i i (by simp [hi])
        have hir : i < r.length := by rw [hlen]; simpa using hi
        rw [List.getElem?_eq_getElem hir] at hg
        exact ⟨fuel, _, hg⟩
    · cases h
theorem flat_of {α : Type} {enc : α → List Value} {sz : Nat} : ∀ (n : Nat) (cs : List Value), cs.length = n * sz → (∀ i, i < n → ∃ x, (cs.drop (i * sz)).take sz = enc x) → ∃ L : List α, L.length = n ∧ cs = L.flatMap enc
  | 0, cs, hl, _ => ⟨[], rfl, by simpa using hl⟩
  | n + 1, cs, hl, h => by
    obtain ⟨x, hx⟩ := h 0 (by omega)
    rw [Nat.zero_mul, List.drop_zero] at hx
    rw [Nat.add_mul, Nat.one_mul] at hl
    obtain ⟨L, h1, h2⟩ := flat_of (enc := enc) (sz := sz) n (cs.drop sz) (by rw [List.length_drop]; omega) (fun i hi => by
      obtain ⟨y, hy⟩ := h (i + 1) (by omega)
      refine ⟨y, ?_⟩
      rw [← hy, List.drop_drop, Nat.add_mul, Nat.one_mul, Nat.add_comm])
    exact ⟨x :: L, by simp [h1], by rw [List.flatMap_cons, ← h2, ← hx, List.take_append_drop]⟩
end Go.Par
namespace Go.Proofs.Ytgpanbmjmpondaa
set_option maxRecDepth 4000
open Go Go.Par PH Go.ChangeShapes Go.WideShapes Go.ChangeAt Go.RowKit
theorem opnSlo : Opn Try.prog 34 fun _ cs (a : Slo) => cs = encSlo a ∧ True := by
  intro H enc W sp held fuel cs x h
  obtain ⟨hl, hf⟩ := trod_fields (fs := _) rfl h
  have hl : cs.length = 3 := hl
  match cs, hl with
  | [c0, c1, c2], _ =>
    obtain ⟨_, _, f0⟩ := hf _ (.head _)
    obtain ⟨_, _, f1⟩ := hf _ (.tail _ (.head _))
    obtain ⟨_, _, f2⟩ := hf _ (.tail _ (.tail _ (.head _)))
    obtain ⟨a, e0, _⟩ := Opn_int (k := .i64) rfl f0
    obtain ⟨b, e1, _⟩ := Opn_int (k := .u8) rfl f1
    obtain ⟨c, e2, _⟩ := Opn_string rfl f2
    have e0 : [c0] = [.int .i64 a] := e0
    have e1 : [c1] = [.int .u8 b] := e1
    have e2 : [c2] = [.string c] := e2
    cases e0; cases e1; cases e2
    exact ⟨⟨a, b, c.data.toList⟩, by unfold encSlo; rw [← mkB_of c], trivial⟩
theorem cellsSlo' : Try.prog.cellsOf 34 = 3 := cellsSlo
theorem cellsArr : Try.prog.cellsOf 65 = 30 := by kernel_rfl
theorem cellsSli : Try.prog.cellsOf 22 = 1 := by kernel_rfl
theorem opnSls : Opn Try.prog 65 fun _ cs (l : List Slo) => cs = l.flatMap encSlo ∧ l.length = 10 := by
  intro H enc W sp held fuel cs x h
  obtain ⟨hl, hf⟩ := trod_arr (n := 10) (e := 34) rfl h
  rw [cellsArr] at hl
  rw [cellsSlo] at hf
  obtain ⟨L, h1, h2⟩ := flat_of (enc := encSlo) (sz := 3) 10 cs hl (fun i hi => by
    obtain ⟨_, _, hy⟩ := hf i hi
    obtain ⟨a, ha, _⟩ := opnSlo hy
    exact ⟨a, ha⟩)
  exact ⟨L, h2, h1⟩
theorem opnChu : Opn Try.prog 67 fun _ cs (a : Chu) => cs = encChu a ∧ True := by
  intro H enc W sp held fuel cs x h
  obtain ⟨hl, hf⟩ := trod_fields (fs := _) rfl h
  have hl : cs.length = 31 := hl
  obtain ⟨_, _, f0⟩ := hf _ (.head _)
  obtain ⟨_, _, f1⟩ := hf _ (.tail _ (.head _))
  obtain ⟨a, e0, _⟩ := Opn_int (k := .i64) rfl f0
  obtain ⟨l, e1, hl10⟩ := opnSls f1
  have e0 : (cs.drop 0).take 1 = [.int .i64 a] := e0
  have e1 : (cs.drop 1).take 30 = l.flatMap encSlo := e1
  refine ⟨⟨a, l⟩, ?_, trivial⟩
  rw [List.take_of_length_le (by rw [List.length_drop]; omega)] at e1
  unfold encChu
  rw [List.drop_zero] at e0
  rw [← e1]
  have := List.take_append_drop 1 cs
  rw [e0] at this
  exact this.symm
theorem opnChus : Opn Try.prog 22 fun h cs (p : Value × List Chu) => cs = [p.1] ∧ Sl encChu 31 h p.1 p.2 ∧ ∀ a ∈ p.2, True := Opn_slice rfl rfl (by decide) opnChu
theorem opnRows : Opn Try.prog 23 fun h cs (d : Dr) => ∃ x0 x1 x2 x3, cs = [x0, x1, x2, x3] ∧ DrV h (drV x0 x1 x2 x3) d := by
  intro H enc W sp held fuel cs x h
  obtain ⟨hl, hf⟩ := trod_arr (n := 4) (e := 22) rfl h
  have hl : cs.length = 4 := hl
  rw [cellsSli] at hf
  match cs, hl with
  | [c0, c1, c2, c3], _ =>
    obtain ⟨_, _, f0⟩ := hf 0 (by omega)
    obtain ⟨_, _, f1⟩ := hf 1 (by omega)
    obtain ⟨_, _, f2⟩ := hf 2 (by omega)
    obtain ⟨_, _, f3⟩ := hf 3 (by omega)
    obtain ⟨⟨v0, l0⟩, e0, s0, -⟩ := opnChus f0
    obtain ⟨⟨v1, l1⟩, e1, s1, -⟩ := opnChus f1
    obtain ⟨⟨v2, l2⟩, e2, s2, -⟩ := opnChus f2
    obtain ⟨⟨v3, l3⟩, e3, s3, -⟩ := opnChus f3
    have e0 : [c0] = [v0] := e0
    have e1 : [c1] = [v1] := e1
    have e2 : [c2] = [v2] := e2
    have e3 : [c3] = [v3] := e3
    cases e0; cases e1; cases e2; cases e3
    exact ⟨⟨l0, l1, l2, l3⟩, _, _, _, _, rfl, _, _, _, _, rfl, s0, s1, s2, s3⟩
theorem open_dir {H : Type} {enc : TypeId × Value → H} {W : World} {r : Reach} {base : Nat} {sp : Nat → Bool} {held : Bool} {v : Value} {d : DataW H} {ps : List MemPlace} (hval : Value.okWide Try.prog W r base 25 v)
    (hd : DataW.Trod enc Try.prog W 0 sp held 25 v d ps) : ∃ q, DrV (hp W) v q := by
  obtain ⟨fuel, hd⟩ := hd
  obtain ⟨hl, hf⟩ := trod_fields (fs := _) rfl hd
  obtain ⟨_, _, f0⟩ := hf _ (.head _)
  obtain ⟨q, x0, x1, x2, x3, e0, hq⟩ := opnRows f0
  obtain ⟨cs, rfl, _⟩ : ∃ cs, v = .agg cs ∧ _ := hval
  have hl : cs.toList.length = 4 := hl
  have e0 : (cs.toList.drop 0).take 4 = [x0, x1, x2, x3] := e0
  rw [List.drop_zero, List.take_of_length_le (by omega)] at e0
  have : cs = #[x0, x1, x2, x3] := by rw [← Array.toArray_toList (xs := cs), e0]
  rw [this]
  exact ⟨q, hq⟩
theorem asks_law' (h : PH) (v : Value) (d : Dr) (s : ByteArray) (f m : Int) (hv : DrV h v d) : Does Try.prog 3 [v, .string s, .int .i64 f, .int .i64 m] [] h (Ret fun r _ _ => r = .bool true) := by
  rw [mkB_of s]; exact asks_law h v d _ f m hv
set_option maxRecDepth 100000 in
theorem dirAsks_lifted (os : Os) (started : os.Started) (H : Type) (enc : TypeId × Value → H) :
    ReturnsInHanded {} Try.checked os 3 .any (Rows.dirAsksSpec.pre6 enc Try.prog Try.f3 Rows.dirAsksRow.domain false) (Rows.dirAsksSpec.post enc Try.prog Try.f3 false true false false) := by
  refine returnsInHanded_of_change (C := Try.checked) own_ started (by kernel_rfl) Try.func3
    (ChangeSpec.witness6 (enc := enc) (C := Try.checked) false ⟨#[], #[.agg #[.slice none 0 0, .slice none 0 0, .slice none 0 0, .slice none 0 0], .string ⟨#[]⟩, .int .i64 0, .int .i64 0], []⟩ 8 (by kernel_rfl) (by kernel_rfl) (by kernel_rfl) (by kernel_rfl)) ?_
  intro W base args ds gs before hval0 hW hcnd _
  have hval : ∀ (j : Nat) t v, Try.f3.params[j]? = some t → args[j]? = some v → Value.okWide Try.prog W .any base t v := hval0
  have hW' := hW
  obtain ⟨p, q, hA0, hV, rfl, hfz, hnd⟩ := hW
  have hA : DataW.TrodAll enc Try.prog W 0 (fun _ => true) true Try.f3.params.toList args.toList ds p := hA0
  rw [Try.params3] at hA hval
  obtain ⟨v0, v1, v2, v3, d0, d1, d2, d3, p0, p1, p2, p3, rfl, rfl, rfl, h0, h1, h2, h3⟩ := trodAll_four hA
  obtain ⟨d, hv⟩ := open_dir (hval 0 25 v0 rfl rfl) h0
  obtain ⟨s, rfl⟩ := (opn_str rfl) (hval 1 9 v1 rfl rfl) h1
  obtain ⟨f, rfl, _, _⟩ := (opn_int rfl) (hval 2 3 v2 rfl rfl) h2
  obtain ⟨m, rfl, _, _⟩ := (opn_int rfl) (hval 3 3 v3 rfl rfl) h3
  clear hA0 hval0
  refine (asks_law' (hp W) v0 d s f m hv).below.mono fun e W' ⟨hb, v, R', h', he, hv⟩ => ?_
  subst he; subst hv
  exact ⟨_, rfl, post_true (tb := 4) laid_ (of_decide_eq_true (by kernel_rfl)) rfl rfl rfl rfl rfl rfl hW' hb⟩
theorem dirAsks_holds : Rows.DirAsksSaid :=
  OpenClaim.holds_of_wide 3 Try.f3 rfl rfl rfl rfl rfl rfl rfl ⟨rfl, rfl, rfl, rfl, rfl⟩ rfl rfl rfl rfl rfl (by kernel_rfl) Try.func3 (by kernel_rfl)
    (of_decide_eq_true (by kernel_rfl)) (by unfold Func.isWrapper; first | (rw [if_pos (by decide +kernel)]; kernel_rfl) | (rw [if_neg (by decide +kernel)]; exact ⟨rfl, rfl⟩))
    (fun os started H enc _ => dirAsks_lifted os started H enc)
end Go.Proofs.Ytgpanbmjmpondaa
