/- Attributes and processes: arguments opened. -/
import Derived.Test.YtcgmbfgmofcemaaCredA
import Derived.Test.YtcgmbfgmofcemaaAclH
namespace Go.Proofs.Ytcgmbfgmofcemaa
set_option maxRecDepth 4000
open Go Go.Par PH Go.WideShapes
theorem opnX : Opn Try.prog 63 fun _ cs (a : ByteArray × ByteArray) => cs = encX a ∧ True := by
  intro H enc W sp held fuel cs x h
  obtain ⟨hl, hf⟩ := trod_fields (fs := _) rfl h
  have hl : cs.length = 2 := hl
  match cs, hl with
  | [c0, c1], _ =>
    obtain ⟨_, _, f0⟩ := hf _ (.head _)
    obtain ⟨_, _, f1⟩ := hf _ (.tail _ (.head _))
    obtain ⟨a, e0, h0⟩ := Opn_string rfl f0
    obtain ⟨b, e1, h1⟩ := Opn_string rfl f1
    have e0 : [c0] = [.string a] := e0
    have e1 : [c1] = [.string b] := e1
    cases e0; cases e1
    exact ⟨(a, b), rfl, trivial⟩
theorem opnXs : Opn Try.prog 29 fun h cs (p : Value × List (ByteArray × ByteArray)) => cs = [p.1] ∧ Sl encX 2 h p.1 p.2 ∧ ∀ a ∈ p.2, True := Opn_slice rfl rfl (by decide) opnX
theorem opnAttr : Opn Try.prog 31 fun h cs (p : Value × Value × Value × Value × Value × Attr) => cs = attrC p.2.2.2.2.2 p.1 p.2.1 p.2.2.1 p.2.2.2.1 p.2.2.2.2.1 ∧ Sl encN 2 h p.1 p.2.2.2.2.2.acc.us ∧ Sl encN 2 h p.2.1 p.2.2.2.2.2.acc.gs
    ∧ Sl encN 2 h p.2.2.1 p.2.2.2.2.2.df.us ∧ Sl encN 2 h p.2.2.2.1 p.2.2.2.2.2.df.gs ∧ Sl encX 2 h p.2.2.2.2.1 p.2.2.2.2.2.xs ∧ p.2.2.2.2.2.Ok := by
  intro H enc W sp held fuel cs x h
  obtain ⟨hl, hf⟩ := trod_fields (fs := _) rfl h
  have hl : cs.length = 19 := hl
  match cs, hl with
  | [c0, c1, c2, c3, c4, c5, c6, c7, c8, c9, c10, c11, c12, c13, c14, c15, c16, c17, c18], _ =>
    obtain ⟨_, _, f0⟩ := hf _ (.head _)
    obtain ⟨_, _, f1⟩ := hf _ (.tail _ (.head _))
    obtain ⟨_, _, f2⟩ := hf _ (.tail _ (.tail _ (.head _)))
    obtain ⟨_, _, f3⟩ := hf _ (.tail _ (.tail _ (.tail _ (.head _))))
    obtain ⟨_, _, f4⟩ := hf _ (.tail _ (.tail _ (.tail _ (.tail _ (.head _)))))
    obtain ⟨_, _, f5⟩ := hf _ (.tail _ (.tail _ (.tail _ (.tail _ (.tail _ (.head _))))))
    obtain ⟨_, _, f6⟩ := hf _ (.tail _ (.tail _ (.tail _ (.tail _ (.tail _ (.tail _ (.head _)))))))
    obtain ⟨b, e0, h0⟩ := Opn_int (k := .u8) rfl f0
    obtain ⟨ui, e1, h1⟩ := Opn_int (k := .u16) rfl f1
    obtain ⟨gi, e2, h2⟩ := Opn_int (k := .u16) rfl f2
    obtain ⟨⟨u, g, ac⟩, e3, hu, hg, hac⟩ := opnAcl f3
    obtain ⟨hd, e4⟩ := Opn_bool rfl f4
    obtain ⟨⟨u2, g2, df⟩, e5, hu2, hg2, hdf⟩ := opnAcl f5
    obtain ⟨⟨xv, xs⟩, e6, hx, -⟩ := opnXs f6
    have e0 : [c0] = [.int .u8 b] := e0
    have e1 : [c1] = [.int .u16 ui] := e1
    have e2 : [c2] = [.int .u16 gi] := e2
    have e3 : [c3, c4, c5, c6, c7, c8, c9] = [.int .u8 ac.o, .int .u8 ac.g, .int .u8 ac.t, u, g, .bool ac.hm, .int .u8 ac.m] := e3
    have e4 : [c10] = [.bool hd] := e4
    have e5 : [c11, c12, c13, c14, c15, c16, c17] = [.int .u8 df.o, .int .u8 df.g, .int .u8 df.t, u2, g2, .bool df.hm, .int .u8 df.m] := e5
    have e6 : [c18] = [xv] := e6
    cases e0; cases e1; cases e2; cases e3; cases e4; cases e5; cases e6
    exact ⟨(u, g, u2, g2, xv, ⟨b, ui, gi, ac, hd, df, xs⟩), rfl, hu, hg, hu2, hg2, hx, ⟨h0, h1, h2, hac, hdf⟩⟩
theorem open_attr {H : Type} {enc : TypeId × Value → H} {W : World} {r : Reach} {base : Nat} {sp : Nat → Bool} {held : Bool} {v : Value} {d : DataW H} {ps : List MemPlace} (hval : Value.okWide Try.prog W r base 31 v)
    (hd : DataW.Trod enc Try.prog W 0 sp held 31 v d ps) : ∃ a, AttrV (hp W) v a ∧ a.Ok := by
  obtain ⟨fuel, hd⟩ := hd
  obtain ⟨⟨u, g, u2, g2, x, a⟩, e, hu, hg, hu2, hg2, hx, hok⟩ := opnAttr hd
  obtain ⟨cs, rfl, _⟩ : ∃ cs, v = .agg cs ∧ _ := hval
  refine ⟨a, ⟨u, g, u2, g2, x, ?_, hu, hg, hu2, hg2, hx⟩, hok⟩
  have e : cs.toList = attrC a u g u2 g2 x := e
  have : cs = (attrC a u g u2 g2 x).toArray := by rw [← e]
  rw [this]; rfl
theorem opnU : Opn Try.prog 22 fun _ cs (a : Int) => cs = encU16 a ∧ u16 a := by
  intro H enc W sp held fuel cs x h
  exact Opn_int (k := .u16) rfl h
theorem opnUs : Opn Try.prog 23 fun h cs (p : Value × List Int) => cs = [p.1] ∧ Sl encU16 1 h p.1 p.2 ∧ ∀ a ∈ p.2, u16 a := Opn_slice rfl rfl (by decide) opnU
theorem opnCred : Opn Try.prog 25 fun h cs (p : Value × Cred) => cs = credC p.2 p.1 ∧ Sl encU16 1 h p.1 p.2.gs ∧ p.2.Ok := by
  intro H enc W sp held fuel cs x h
  obtain ⟨hl, hf⟩ := trod_fields (fs := _) rfl h
  have hl : cs.length = 4 := hl
  match cs, hl with
  | [c0, c1, c2, c3], _ =>
    obtain ⟨_, _, f0⟩ := hf _ (.head _)
    obtain ⟨_, _, f1⟩ := hf _ (.tail _ (.head _))
    obtain ⟨_, _, f2⟩ := hf _ (.tail _ (.tail _ (.head _)))
    obtain ⟨_, _, f3⟩ := hf _ (.tail _ (.tail _ (.tail _ (.head _))))
    obtain ⟨ui, e0, h0⟩ := Opn_int (k := .u16) rfl f0
    obtain ⟨gi, e1, h1⟩ := Opn_int (k := .u16) rfl f1
    obtain ⟨⟨x, gs⟩, e2, hx, hx2⟩ := opnUs f2
    obtain ⟨hi, e3⟩ := Opn_bool rfl f3
    have e0 : [c0] = [.int .u16 ui] := e0
    have e1 : [c1] = [.int .u16 gi] := e1
    have e2 : [c2] = [x] := e2
    have e3 : [c3] = [.bool hi] := e3
    cases e0; cases e1; cases e2; cases e3
    exact ⟨(x, ⟨ui, gi, gs, hi⟩), rfl, hx, ⟨h0, h1, hx2⟩⟩
theorem open_cred {H : Type} {enc : TypeId × Value → H} {W : World} {r : Reach} {base : Nat} {sp : Nat → Bool} {held : Bool} {v : Value} {d : DataW H} {ps : List MemPlace} (hval : Value.okWide Try.prog W r base 25 v)
    (hd : DataW.Trod enc Try.prog W 0 sp held 25 v d ps) : ∃ c, CredV (hp W) v c ∧ c.Ok := by
  obtain ⟨fuel, hd⟩ := hd
  obtain ⟨⟨x, c⟩, e, hx, hok⟩ := opnCred hd
  obtain ⟨cs, rfl, _⟩ : ∃ cs, v = .agg cs ∧ _ := hval
  refine ⟨c, ⟨x, ?_, hx⟩, hok⟩
  have e : cs.toList = credC c x := e
  have : cs = (credC c x).toArray := by rw [← e]
  rw [this]; rfl
theorem open_u16 {H : Type} {enc : TypeId × Value → H} {W : World} {r : Reach} {base : Nat} {sp : Nat → Bool} {held : Bool} {v : Value} {d : DataW H} {ps : List MemPlace} {t : TypeId} (ht : Try.prog.underlying t = some (.int .u16)) (hval : Value.okWide Try.prog W r base t v)
    (hd : DataW.Trod enc Try.prog W 0 sp held t v d ps) : ∃ n, v = .int .u16 n ∧ u16 n := by
  obtain ⟨n, rfl, _, _, hw⟩ := ChangeShapes.open_int (k := .u16) ht hval hd
  refine ⟨n, rfl, ?_⟩
  have hw : (decide ((0 : Int) ≤ n) && decide (n ≤ 65535)) = true := hw
  simp only [Bool.and_eq_true, decide_eq_true_eq] at hw
  exact hw
theorem open_u8 {H : Type} {enc : TypeId × Value → H} {W : World} {r : Reach} {base : Nat} {sp : Nat → Bool} {held : Bool} {v : Value} {d : DataW H} {ps : List MemPlace} {t : TypeId} (ht : Try.prog.underlying t = some (.int .u8)) (hval : Value.okWide Try.prog W r base t v)
    (hd : DataW.Trod enc Try.prog W 0 sp held t v d ps) : ∃ n, v = .int .u8 n ∧ u8 n := by
  obtain ⟨n, rfl, _, _, hw⟩ := ChangeShapes.open_int (k := .u8) ht hval hd
  refine ⟨n, rfl, ?_⟩
  have hw : (decide ((0 : Int) ≤ n) && decide (n ≤ 255)) = true := hw
  simp only [Bool.and_eq_true, decide_eq_true_eq] at hw
  exact hw
theorem open_bool1 {H : Type} {enc : TypeId × Value → H} {W : World} {r : Reach} {base : Nat} {sp : Nat → Bool} {held : Bool} {v : Value} {d : DataW H} {ps : List MemPlace} {t : TypeId} (ht : Try.prog.underlying t = some .bool) (hval : Value.okWide Try.prog W r base t v)
    (hd : DataW.Trod enc Try.prog W 0 sp held t v d ps) : ∃ b, v = .bool b := by
  obtain ⟨b, e, _⟩ := RowKit.open_bool ht hval hd
  exact ⟨b, e⟩
end Go.Proofs.Ytcgmbfgmofcemaa
