/- Engine, fifth text: scopes and labels, slices of slices, clearing. It speaks of no program. -/
import Derived.Test.YtligadbnoiibnaaEngD
import Derived.Scope
namespace Go.Par
open Go PH
def noG (Q : Exit → S → Prop) : Exit → S → Prop
  | .goto _, _ => False
  | e, s => Q e s
theorem noG_normal {Q : Exit → S → Prop} {s : S} (h : Q .normal s) : noG Q .normal s := h
theorem noG_ret {Q : Exit → S → Prop} {s : S} (h : Q .ret s) : noG Q .ret s := h
theorem noG_exit {Q : Exit → S → Prop} {s : S} {i : Nat} (h : Q (.exit i) s) : noG Q (.exit i) s := h
section
variable {P : Program} {n : Nat} {ops : Array Oper} {l : List Oper} {o : Oper} {E : Env} {D : List Deferred} {R : List SL} {h : PH} {s : S} {K : S → Prop} {Q : Exit → S → Prop}
theorem W_scope {c : Code} (h : W P n c s (noG Q)) : W P n (.scope c) s Q := fun κ h0 f a w hf ha hw => by
  refine wp_scope_straight (wp_mono (h κ h0 f a w hf ha hw) ?_)
  rintro e a' w' ⟨he, s', h1, h2, h3⟩
  cases e with
  | goto i => exact h3.elim
  | normal => exact ⟨by simp, s', h1, h2, h3⟩
  | exit i => exact ⟨by simp, s', h1, h2, h3⟩
  | ret => exact ⟨by simp, s', h1, h2, h3⟩
  | panic c => exact ⟨by simp, s', h1, h2, h3⟩
  | outgrown => exact absurd rfl he
/-- The rest of a slice, from a place on. -/
theorem X_sliceLo {x y : Operand} {t e : TypeId} {b len cap sz j : Nat} {k : IntKind} (ho : o.op = .slice t x (some y) none none) (ht : slOf P t = some e) (hs : szOf P e = some sz) (hx : ev E x = some (.slice (some ⟨b, 0, none⟩) len cap)) (hy : ev E y = some (.int k (j : Int)))
    (h1 : j ≤ len) (h2 : j ≠ cap) : Exec P n o ⟨E, D, R, h⟩ (Is (.slice (some ⟨b, j * sz, none⟩) (len - j) (cap - j)) R h) :=
  Exec_is fun a w ha => by
    have h2' : ¬ cap = j := fun e => h2 e.symm
    simp [execOp, ho, ha.ev hx, ha.ev hy, Instr.sliceAt, Instr.slice, Instr.sliceBounds, Instr.sliceBound, asIntOf, run_underlying w (slOf_under ht), run_sizeOf w hs, add_spot, h1, h2']
/-- The beginning of a slice. -/
theorem X_sliceHi {x y : Operand} {t e : TypeId} {b len cap sz j : Nat} {k : IntKind} (ho : o.op = .slice t x none (some y) none) (ht : slOf P t = some e) (hs : szOf P e = some sz) (hx : ev E x = some (.slice (some ⟨b, 0, none⟩) len cap)) (hy : ev E y = some (.int k (j : Int)))
    (h1 : j ≤ cap) : Exec P n o ⟨E, D, R, h⟩ (Is (.slice (some ⟨b, 0, none⟩) j cap) R h) :=
  Exec_is fun a w ha => by
    simp [execOp, ho, ha.ev hx, ha.ev hy, Instr.sliceAt, Instr.slice, Instr.sliceBounds, Instr.sliceBound, asIntOf, run_underlying w (slOf_under ht), run_sizeOf w hs, add_spot, h1]
theorem zeroCells1 (z : Value) (m : Nat) : (Builtin.zeroCells #[z] m).toList = List.replicate m z := by
  apply List.ext_getElem?
  intro j
  simp only [Builtin.zeroCells, List.size_toArray, List.length_cons, List.length_nil, Nat.zero_add, Nat.mul_one, Nat.mod_one, Array.toList_map, Array.toList_range, List.getElem?_map, List.getElem?_replicate]
  by_cases hj : j < m
  · simp [hj]
  · simp [hj]
/-- Clearing a part of a block of one's own. -/
theorem WL_clear {x : Operand} {t t0 e : TypeId} {b off m cap i : Nat} {z : Value} {c : List Value} (ho : o.op = .call ⟨.builtin .clear, #[x], #[t]⟩) (ht : slOf P t = some e) (hz : zeOf P e = some z) (hzf : flat z = true) (hzc : z.cells = #[z])
    (hx : ev E x = some (.slice (some ⟨b, off, none⟩) m cap)) (hm : 0 < m) (hi : R[i]? = some (blk b c t0)) (hc : off + m ≤ c.length) (hd : o.dst = none) (hg : gd ops E o = some true)
    (k : WL P n ops l ⟨E, D, R.set i (blk b (wr c off (List.replicate m z)) t0), h⟩ K Q) : WL P n ops (o :: l) ⟨E, D, R, h⟩ K Q := by
  refine WL_do (A := fun _ R' h' => R' = R.set i (blk b (wr c off (List.replicate m z)) t0) ∧ h' = h) ?_ hd hg fun _ _ _ _ ⟨e1, e2⟩ => by subst e1; subst e2; exact k
  refine Exec_of_run fun κ h0 f a w _ ha hw => ?_
  have hb := hw.obj_at hi
  have hst := run_storeCells_at (P := P) (off := off) (i := 0) (vs := List.replicate m z) hb (by simp; omega) (by simp [hzf])
  refine ⟨.tuple #[], _, h, _, .inl ?_, le.refl _, hw.turnRow hi, rfl, rfl⟩
  obtain ⟨m, rfl⟩ : ∃ m', m = m' + 1 := ⟨m - 1, by omega⟩
  simp only [Nat.add_zero] at hst
  simp only [execOp, ho, resolve, invoke, builtin, Sem.run_bind, Sem.run_pure, Result.andThen_ok]
  simp [ha.ev hx, Builtin.clear_, run_underlying w (slOf_under ht), run_zeroValue w hz, hzc, zeroCells1, hst]
end
attribute [irreducible] noG
end Go.Par
