/- Access lists: arguments opened. -/
import Derived.Test.YtcgmbfgmofcemaaAclG
import Derived.Test.YtcgmbfgmofcemaaOpen
namespace Go.Proofs.Ytcgmbfgmofcemaa
set_option maxRecDepth 4000
open Go Go.Par PH Go.WideShapes
attribute [local irreducible] W WL Does Exec Body Then inBlk RG WR row obj pblk
theorem opnN : Opn Try.prog 53 fun _ cs (a : Int × Int) => cs = encN a ∧ u16 a.1 ∧ u8 a.2 := by
  intro H enc W sp held fuel cs x h
  obtain ⟨hl, hf⟩ := trod_fields (fs := _) rfl h
  have hl : cs.length = 2 := hl
  match cs, hl with
  | [c0, c1], _ =>
    obtain ⟨_, _, f0⟩ := hf _ (.head _)
    obtain ⟨_, _, f1⟩ := hf _ (.tail _ (.head _))
    obtain ⟨a, e0, h0⟩ := Opn_int (k := .u16) rfl f0
    obtain ⟨b, e1, h1⟩ := Opn_int (k := .u8) rfl f1
    have e0 : [c0] = [.int .u16 a] := e0
    have e1 : [c1] = [.int .u8 b] := e1
    cases e0; cases e1
    exact ⟨(a, b), rfl, h0, h1⟩
theorem opnNs : Opn Try.prog 26 fun h cs (p : Value × List (Int × Int)) => cs = [p.1] ∧ Sl encN 2 h p.1 p.2 ∧ ∀ a ∈ p.2, u16 a.1 ∧ u8 a.2 := Opn_slice rfl rfl (by decide) opnN
theorem opnAcl : Opn Try.prog 28 fun h cs (p : Value × Value × Acl) => cs = cellsOf p.2.2 p.1 p.2.1 ∧ Sl encN 2 h p.1 p.2.2.us ∧ Sl encN 2 h p.2.1 p.2.2.gs ∧ p.2.2.Ok := by
  intro H enc W sp held fuel cs x h
  obtain ⟨hl, hf⟩ := trod_fields (fs := _) rfl h
  have hl : cs.length = 7 := hl
  match cs, hl with
  | [c0, c1, c2, c3, c4, c5, c6], _ =>
    obtain ⟨_, _, f0⟩ := hf _ (.head _)
    obtain ⟨_, _, f1⟩ := hf _ (.tail _ (.head _))
    obtain ⟨_, _, f2⟩ := hf _ (.tail _ (.tail _ (.head _)))
    obtain ⟨_, _, f3⟩ := hf _ (.tail _ (.tail _ (.tail _ (.head _))))
    obtain ⟨_, _, f4⟩ := hf _ (.tail _ (.tail _ (.tail _ (.tail _ (.head _)))))
    obtain ⟨_, _, f5⟩ := hf _ (.tail _ (.tail _ (.tail _ (.tail _ (.tail _ (.head _))))))
    obtain ⟨_, _, f6⟩ := hf _ (.tail _ (.tail _ (.tail _ (.tail _ (.tail _ (.tail _ (.head _)))))))
    obtain ⟨o, e0, h0⟩ := Opn_int (k := .u8) rfl f0
    obtain ⟨g, e1, h1⟩ := Opn_int (k := .u8) rfl f1
    obtain ⟨t, e2, h2⟩ := Opn_int (k := .u8) rfl f2
    obtain ⟨⟨u, us⟩, e3, hu, hu2⟩ := opnNs f3
    obtain ⟨⟨w, gs⟩, e4, hg, hg2⟩ := opnNs f4
    obtain ⟨hm, e5⟩ := Opn_bool rfl f5
    obtain ⟨m, e6, h6⟩ := Opn_int (k := .u8) rfl f6
    have e0 : [c0] = [.int .u8 o] := e0
    have e1 : [c1] = [.int .u8 g] := e1
    have e2 : [c2] = [.int .u8 t] := e2
    have e3 : [c3] = [u] := e3
    have e4 : [c4] = [w] := e4
    have e5 : [c5] = [.bool hm] := e5
    have e6 : [c6] = [.int .u8 m] := e6
    cases e0; cases e1; cases e2; cases e3; cases e4; cases e5; cases e6
    exact ⟨(u, w, ⟨o, g, t, us, gs, hm, m⟩), rfl, hu, hg, ⟨h0, h1, h2, h6, hu2, hg2⟩⟩
theorem open_acl {H : Type} {enc : TypeId × Value → H} {W : World} {r : Reach} {base : Nat} {sp : Nat → Bool} {held : Bool} {v : Value} {d : DataW H} {ps : List MemPlace} (hval : Value.okWide Try.prog W r base 28 v)
    (hd : DataW.Trod enc Try.prog W 0 sp held 28 v d ps) : ∃ a, AclV (hp W) v a ∧ a.Ok := by
  obtain ⟨fuel, hd⟩ := hd
  obtain ⟨⟨u, w, a⟩, e, hu, hg, hok⟩ := opnAcl hd
  obtain ⟨cs, rfl, _⟩ : ∃ cs, v = .agg cs ∧ _ := hval
  refine ⟨a, ⟨u, w, ?_, hu, hg⟩, hok⟩
  have e : cs.toList = cellsOf a u w := e
  have : cs = (cellsOf a u w).toArray := by rw [← e]
  rw [this]; rfl
end Go.Proofs.Ytcgmbfgmofcemaa
