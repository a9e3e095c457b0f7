/- Open files: arguments opened. -/
import Derived.Test.YtmicilnmphkpmaaDescI
import Derived.Test.YtmicilnmphkpmaaOpen
namespace Go.Proofs.Ytmicilnmphkpmaa
open Go Go.Par PH Go.WideShapes
def i64 (x : Int) : Prop := -9223372036854775808 ≤ x ∧ x ≤ 9223372036854775807
structure FileD.Ok (f : FileD) : Prop where
  ino : i64 f.ino
  gen : 0 ≤ f.gen ∧ f.gen ≤ 4294967295
  fl : 0 ≤ f.fl ∧ f.fl ≤ 255
  off : i64 f.off
theorem opnF : Opn Try.prog 33 fun _ cs (f : FileD) => cs = encF f ∧ f.Ok := by
  intro H enc W sp held fuel cs x h
  obtain ⟨hl, hf⟩ := trod_fields (fs := _) rfl h
  have hl : cs.length = 6 := hl
  match cs, hl with
  | [c0, c1, c2, c3, c4, c5], _ =>
    obtain ⟨_, _, f0⟩ := hf _ (.head _)
    obtain ⟨_, _, f1⟩ := hf _ (.tail _ (.head _))
    obtain ⟨_, _, f2⟩ := hf _ (.tail _ (.tail _ (.head _)))
    obtain ⟨_, _, f3⟩ := hf _ (.tail _ (.tail _ (.tail _ (.head _))))
    obtain ⟨_, _, f4⟩ := hf _ (.tail _ (.tail _ (.tail _ (.tail _ (.head _)))))
    obtain ⟨_, _, f5⟩ := hf _ (.tail _ (.tail _ (.tail _ (.tail _ (.tail _ (.head _))))))
    obtain ⟨a, e0⟩ := Opn_bool rfl f0
    obtain ⟨b, e1, h1⟩ := Opn_int (k := .i64) rfl f1
    obtain ⟨c, e2, h2⟩ := Opn_int (k := .u32) rfl f2
    obtain ⟨d, e3⟩ := Opn_bool rfl f3
    obtain ⟨e, e4, h4⟩ := Opn_int (k := .u8) rfl f4
    obtain ⟨f, e5, h5⟩ := Opn_int (k := .i64) rfl f5
    have e0 : [c0] = [.bool a] := e0
    have e1 : [c1] = [.int .i64 b] := e1
    have e2 : [c2] = [.int .u32 c] := e2
    have e3 : [c3] = [.bool d] := e3
    have e4 : [c4] = [.int .u8 e] := e4
    have e5 : [c5] = [.int .i64 f] := e5
    cases e0; cases e1; cases e2; cases e3; cases e4; cases e5
    exact ⟨⟨a, b, c, d, e, f⟩, rfl, ⟨h1, h2, h4, h5⟩⟩
theorem open_file {H : Type} {enc : TypeId × Value → H} {W : World} {r : Reach} {base : Nat} {sp : Nat → Bool} {held : Bool} {v : Value} {d : DataW H} {ps : List MemPlace} (hval : Value.okWide Try.prog W r base 33 v)
    (hd : DataW.Trod enc Try.prog W 0 sp held 33 v d ps) : ∃ f, v = fileV f ∧ f.Ok := by
  obtain ⟨fuel, hd⟩ := hd
  obtain ⟨f, e, hok⟩ := opnF hd
  obtain ⟨cs, rfl, _⟩ : ∃ cs, v = .agg cs ∧ _ := hval
  refine ⟨f, ?_, hok⟩
  have e : cs.toList = encF f := e
  have : cs = (encF f).toArray := by rw [← e]
  rw [this]; rfl
/-- A step of a script. -/
structure StepD where
  d : Int
  fd : Int
  off : Int
  f : FileD
def encS (x : StepD) : List Value := [.int .i64 x.d, .int .i64 x.fd, .int .i64 x.off, .bool x.f.hi, .int .i64 x.f.ino, .int .u32 x.f.gen, .bool x.f.dir, .int .u8 x.f.fl, .int .i64 x.f.off]
structure StepD.Ok (x : StepD) : Prop where
  d : i64 x.d
  fd : i64 x.fd
  off : i64 x.off
  f : x.f.Ok
theorem opnS : Opn Try.prog 35 fun _ cs (x : StepD) => cs = encS x ∧ x.Ok := by
  intro H enc W sp held fuel cs x h
  obtain ⟨hl, hf⟩ := trod_fields (fs := _) rfl h
  have hl : cs.length = 9 := hl
  match cs, hl with
  | [c0, c1, c2, c3, c4, c5, c6, c7, c8], _ =>
    obtain ⟨_, _, f0⟩ := hf _ (.head _)
    obtain ⟨_, _, f1⟩ := hf _ (.tail _ (.head _))
    obtain ⟨_, _, f2⟩ := hf _ (.tail _ (.tail _ (.head _)))
    obtain ⟨_, _, f3⟩ := hf _ (.tail _ (.tail _ (.tail _ (.head _))))
    obtain ⟨a, e0, h0⟩ := Opn_int (k := .i64) rfl f0
    obtain ⟨b, e1, h1⟩ := Opn_int (k := .i64) rfl f1
    obtain ⟨c, e2, h2⟩ := Opn_int (k := .i64) rfl f2
    obtain ⟨d, e3, h3⟩ := opnF f3
    have e0 : [c0] = [.int .i64 a] := e0
    have e1 : [c1] = [.int .i64 b] := e1
    have e2 : [c2] = [.int .i64 c] := e2
    have e3 : [c3, c4, c5, c6, c7, c8] = [.bool d.hi, .int .i64 d.ino, .int .u32 d.gen, .bool d.dir, .int .u8 d.fl, .int .i64 d.off] := e3
    cases e0; cases e1; cases e2; cases e3
    exact ⟨⟨a, b, c, d⟩, rfl, ⟨h0, h1, h2, h3⟩⟩
theorem opnSs : Opn Try.prog 22 fun h cs (p : Value × List StepD) => cs = [p.1] ∧ Sl encS 9 h p.1 p.2 ∧ ∀ x ∈ p.2, x.Ok := Opn_slice rfl rfl (by decide) opnS
theorem open_steps {H : Type} {enc : TypeId × Value → H} {W : World} {r : Reach} {base : Nat} {sp : Nat → Bool} {held : Bool} {v : Value} {d : DataW H} {ps : List MemPlace} (hval : Value.okWide Try.prog W r base 22 v)
    (hd : DataW.Trod enc Try.prog W 0 sp held 22 v d ps) : ∃ l, Sl encS 9 (hp W) v l ∧ ∀ x ∈ l, x.Ok := by
  obtain ⟨fuel, hd⟩ := hd
  obtain ⟨⟨u, l⟩, e, hs, hok⟩ := opnSs hd
  obtain ⟨a, m, cap, rfl⟩ := okWide_slice (e := 35) rfl hval
  have e : [Value.slice a m cap] = [u] := e
  cases e
  exact ⟨l, hs, hok⟩
theorem open_i64 {H : Type} {enc : TypeId × Value → H} {W : World} {r : Reach} {base : Nat} {sp : Nat → Bool} {held : Bool} {v : Value} {d : DataW H} {ps : List MemPlace} {t : TypeId} (ht : Try.prog.underlying t = some (.int .i64)) (hval : Value.okWide Try.prog W r base t v)
    (hd : DataW.Trod enc Try.prog W 0 sp held t v d ps) : ∃ n, v = .int .i64 n ∧ i64 n := by
  obtain ⟨n, rfl, _, _, hw⟩ := ChangeShapes.open_int (k := .i64) ht hval hd
  refine ⟨n, rfl, ?_⟩
  have hw : (decide ((-9223372036854775808 : Int) ≤ n) && decide (n ≤ 9223372036854775807)) = true := hw
  simp only [Bool.and_eq_true, decide_eq_true_eq] at hw
  exact hw
end Go.Proofs.Ytmicilnmphkpmaa
