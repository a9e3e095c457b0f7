/- Engine, fifth text: scopes and labels, slices of slices, clearing. It speaks of no program. -/
import Derived.Test.YthcolbdlalpcjaaEngD
import Derived.Scope
namespace Go.Par
open Go PH
section
variable {F : Fence} {n : Nat} {P : Program} {a : Act} {w : World} {Q : Exit → Act → World → Prop} {b : Frame} {k : List Item} {cs : List Frame}
theorem stepR_scope {c : Code} : step P (lone (b.atR a (.code (.scope c) :: k)) cs w) = .next (lone (b.atR a (.code c :: .inScope c :: k)) cs w) :=
  step_lone_go (by simp [stepG, stepG.exec, Frame.atR])
theorem stepR_inScope {c : Code} : step P (lone (b.atR a (.inScope c :: k)) cs w) = .next (lone (b.atR a k) cs w) :=
  step_lone_go (by simp [stepG, stepG.exec, Frame.atR])
theorem scope_exit {id : Nat} {c : Code} : exitTo id (.inScope c :: k) = exitTo id k := by simp [exitTo]
theorem wpIn_scope_straight {c : Code} (h : c.wpIn F n P (Exit.noGoto Q) a w) : (Code.scope c).wpIn F n P Q a w := by
  intro b k cs hro hb hr
  have h0 : (lone (b.atR a (.code (.scope c) :: k)) cs w).fenced P F := fenced_calm hb hr rfl
  obtain ⟨e, a₁, w₁, hq, harr⟩ := h b (.inScope c :: k) cs hro hb hr
  cases e with
  | normal => exact ⟨.normal, a₁, w₁, hq, .head h0 stepR_scope (StepsIn.trans harr (.one (fenced_calm hb hr rfl) stepR_inScope))⟩
  | exit id => exact ⟨.exit id, a₁, w₁, hq, fun k' hk => .head h0 stepR_scope (harr.1 k' (by rw [scope_exit]; exact hk)), fun hr' hk => let ⟨k₁, h1, h2⟩ := harr.2 hr' (by rw [scope_exit]; exact hk); ⟨k₁, h1, .head h0 stepR_scope h2⟩⟩
  | goto l => exact hq.elim
  | ret => exact ⟨_, a₁, w₁, hq, .of_steps (.one h0 stepR_scope) harr⟩
  | panic ch => exact ⟨_, a₁, w₁, hq, .of_steps (.one h0 stepR_scope) harr⟩
  | outgrown => exact ⟨_, a₁, w₁, hq, .of_steps (.one h0 stepR_scope) harr⟩
def exJ (l : Nat) (J : Act → World → Prop) (Q : Exit → Act → World → Prop) : Exit → Act → World → Prop
  | .goto l', a, w => l' = l ∧ J a w
  | e, a, w => Q e a w
theorem wpIn_scope_to {c rest : Code} (l : Nat) (hf : findLabel c l = some rest) (h : c.wpIn F n P (exJ l (fun a w => rest.wpIn F n P (Exit.noGoto Q) a w) Q) a w) : (Code.scope c).wpIn F n P Q a w := by
  intro b k cs hro hb hr
  have h0 : (lone (b.atR a (.code (.scope c) :: k)) cs w).fenced P F := fenced_calm hb hr rfl
  have hg : gotoIn l (.inScope c :: k) = some (.code rest :: .inScope c :: k) := by simp [gotoIn, hf]
  obtain ⟨e, a₁, w₁, hq, harr⟩ := h b (.inScope c :: k) cs hro hb hr
  cases e with
  | normal => exact ⟨.normal, a₁, w₁, hq, .head h0 stepR_scope (StepsIn.trans harr (.one (fenced_calm hb hr rfl) stepR_inScope))⟩
  | exit id => exact ⟨.exit id, a₁, w₁, hq, fun k' hk => .head h0 stepR_scope (harr.1 k' (by rw [scope_exit]; exact hk)), fun hr' hk => let ⟨k₁, h1, h2⟩ := harr.2 hr' (by rw [scope_exit]; exact hk); ⟨k₁, h1, .head h0 stepR_scope h2⟩⟩
  | goto l' =>
    obtain ⟨rfl, hJ⟩ := hq
    obtain ⟨e2, a2, w2, hq2, harr2⟩ := hJ b (.inScope c :: k) cs hro hb hr
    have st : StepsIn (Machine.fenced P F) P (lone (b.atR a (.code (.scope c) :: k)) cs w) (lone (b.atR a₁ (.code rest :: .inScope c :: k)) cs w₁) := .head h0 stepR_scope (harr.1 _ hg)
    cases e2 with
    | normal => exact ⟨.normal, a2, w2, hq2, StepsIn.trans st (StepsIn.trans harr2 (.one (fenced_calm hb hr rfl) stepR_inScope))⟩
    | exit id => exact ⟨.exit id, a2, w2, hq2, fun k' hk => StepsIn.trans st (harr2.1 k' (by rw [scope_exit]; exact hk)), fun hr' hk => let ⟨k₁, h1, h2⟩ := harr2.2 hr' (by rw [scope_exit]; exact hk); ⟨k₁, h1, StepsIn.trans st h2⟩⟩
    | goto l => exact hq2.elim
    | ret => exact ⟨_, a2, w2, hq2, .of_steps st harr2⟩
    | panic ch => exact ⟨_, a2, w2, hq2, .of_steps st harr2⟩
    | outgrown => exact ⟨_, a2, w2, hq2, .of_steps st harr2⟩
  | ret => exact ⟨_, a₁, w₁, hq, .of_steps (.one h0 stepR_scope) harr⟩
  | panic ch => exact ⟨_, a₁, w₁, hq, .of_steps (.one h0 stepR_scope) harr⟩
  | outgrown => exact ⟨_, a₁, w₁, hq, .of_steps (.one h0 stepR_scope) harr⟩
end
def toG (l : Nat) (K : S → Prop) (Q : Exit → S → Prop) : Exit → S → Prop
  | .goto l', s => l' = l ∧ K s
  | e, s => Q e s
theorem toG_normal {l : Nat} {K : S → Prop} {Q : Exit → S → Prop} {s : S} (h : Q .normal s) : toG l K Q .normal s := h
theorem toG_ret {l : Nat} {K : S → Prop} {Q : Exit → S → Prop} {s : S} (h : Q .ret s) : toG l K Q .ret s := h
theorem toG_exit {l : Nat} {K : S → Prop} {Q : Exit → S → Prop} {s : S} {i : Nat} (h : Q (.exit i) s) : toG l K Q (.exit i) s := h
theorem toG_here {l : Nat} {K : S → Prop} {Q : Exit → S → Prop} {s : S} (h : K s) : toG l K Q (.goto l) s := ⟨rfl, h⟩
def noG (Q : Exit → S → Prop) : Exit → S → Prop
  | .goto _, _ => False
  | e, s => Q e s
theorem noG_normal {Q : Exit → S → Prop} {s : S} (h : Q .normal s) : noG Q .normal s := h
theorem noG_ret {Q : Exit → S → Prop} {s : S} (h : Q .ret s) : noG Q .ret s := h
theorem noG_exit {Q : Exit → S → Prop} {s : S} {i : Nat} (h : Q (.exit i) s) : noG Q (.exit i) s := h
section
variable {P : Program} {n : Nat} {ops : Array Oper} {l : List Oper} {o : Oper} {E : Env} {D : List Deferred} {R : List SL} {h : PH} {s : S} {K : S → Prop} {Q : Exit → S → Prop}
theorem W_scope {c : Code} (h : W P n c s (noG Q)) : W P n (.scope c) s Q := fun κ h0 f a w hf ha hw => by
  refine wpIn_scope_straight (wpIn_mono (h κ h0 f a w hf ha hw) ?_)
  rintro e a' w' ⟨he, s', h1, h2, h3⟩
  cases e with
  | goto i => exact h3.elim
  | normal => exact ⟨by simp, s', h1, h2, h3⟩
  | exit i => exact ⟨by simp, s', h1, h2, h3⟩
  | ret => exact ⟨by simp, s', h1, h2, h3⟩
  | panic c => exact ⟨by simp, s', h1, h2, h3⟩
  | outgrown => exact absurd rfl he
/-- A scope with one label, to which the way leads forward. -/
theorem W_scopeTo {c rest : Code} (l : Nat) (hf : findLabel c l = some rest) (h : W P n c s (toG l (fun s' => W P n rest s' (noG Q)) Q)) : W P n (.scope c) s Q := fun κ h0 f a w hfl ha hw => by
  refine wpIn_scope_to l hf (wpIn_mono (h κ h0 f a w hfl ha hw) ?_)
  rintro e a' w' ⟨he, s', h1, h2, h3⟩
  cases e with
  | goto i =>
    obtain ⟨rfl, h4⟩ := h3
    refine ⟨rfl, ?_⟩
    have := h4 κ h0 f a' w' hfl h1 h2.1
    have hfe : fen s'.D = fen s.D := by simp only [fen, h2.2]
    rw [hfe] at this
    refine wpIn_mono this ?_
    rintro e2 a2 w2 ⟨he2, s2, k1, ⟨k2, k2'⟩, k3⟩
    have hro := k2'.trans h2.2
    cases e2 with
    | goto i => exact k3.elim
    | normal => exact ⟨by simp, s2, k1, ⟨k2, hro⟩, k3⟩
    | exit i => exact ⟨by simp, s2, k1, ⟨k2, hro⟩, k3⟩
    | ret => exact ⟨by simp, s2, k1, ⟨k2, hro⟩, k3⟩
    | panic c => exact ⟨by simp, s2, k1, ⟨k2, hro⟩, k3⟩
    | outgrown => exact absurd rfl he2
  | normal => exact ⟨by simp, s', h1, h2, h3⟩
  | exit i => exact ⟨by simp, s', h1, h2, h3⟩
  | ret => exact ⟨by simp, s', h1, h2, h3⟩
  | panic c => exact ⟨by simp, s', h1, h2, h3⟩
  | outgrown => exact absurd rfl he
/-- The rest of a slice, from a place on. -/
theorem X_sliceLo {x y : Operand} {t e : TypeId} {b len cap sz j : Nat} {k : IntKind} (ho : o.op = .slice t x (some y) none none) (ht : slOf P t = some e) (hs : szOf P e = some sz) (hx : ev E x = some (.slice (some ⟨b, 0, none⟩) len cap)) (hy : ev E y = some (.int k (j : Int)))
    (h1 : j ≤ len) (h2 : j ≠ cap) : Exec P n o ⟨E, D, R, h⟩ (Is (.slice (some ⟨b, j * sz, none⟩) (len - j) (cap - j)) R h) :=
  Exec_is fun a w ha => by
    have h2' : ¬ cap = j := fun e => h2 e.symm
    simp [execOp, ho, ha.ev hx, ha.ev hy, Instr.sliceAt, Instr.slice, Instr.sliceBounds, Instr.sliceBound, asIntOf, run_underlying w (slOf_under ht), run_sizeOf w hs, add_spot, h1, h2']
/-- The beginning of a slice. -/
theorem X_sliceHi {x y : Operand} {t e : TypeId} {b len cap sz j : Nat} {k : IntKind} (ho : o.op = .slice t x none (some y) none) (ht : slOf P t = some e) (hs : szOf P e = some sz) (hx : ev E x = some (.slice (some ⟨b, 0, none⟩) len cap)) (hy : ev E y = some (.int k (j : Int)))
    (h1 : j ≤ cap) : Exec P n o ⟨E, D, R, h⟩ (Is (.slice (some ⟨b, 0, none⟩) j cap) R h) :=
  Exec_is fun a w ha => by
    simp [execOp, ho, ha.ev hx, ha.ev hy, Instr.sliceAt, Instr.slice, Instr.sliceBounds, Instr.sliceBound, asIntOf, run_underlying w (slOf_under ht), run_sizeOf w hs, add_spot, h1]
theorem zeroCells1 (z : Value) (m : Nat) : (Builtin.zeroCells #[z] m).toList = List.replicate m z := by
  apply List.ext_getElem?
  intro j
  simp only [Builtin.zeroCells, List.size_toArray, List.length_cons, List.length_nil, Nat.zero_add, Nat.mul_one, Nat.mod_one, Array.toList_map, Array.toList_range, List.getElem?_map, List.getElem?_replicate]
  by_cases hj : j < m
  · simp [hj]
  · simp [hj]
/-- Clearing a part of a block of one's own. -/
theorem WL_clear {x : Operand} {t t0 e : TypeId} {b off m cap i : Nat} {z : Value} {c : List Value} (ho : o.op = .call ⟨.builtin .clear, #[x], #[t]⟩) (ht : slOf P t = some e) (hz : zeOf P e = some z) (hzf : flat z = true) (hzc : z.cells = #[z])
    (hx : ev E x = some (.slice (some ⟨b, off, none⟩) m cap)) (hm : 0 < m) (hi : R[i]? = some (blk b c t0)) (hc : off + m ≤ c.length) (hd : o.dst = none) (hg : gd ops E o = some true)
    (k : WL P n ops l ⟨E, D, R.set i (blk b (wr c off (List.replicate m z)) t0), h⟩ K Q) : WL P n ops (o :: l) ⟨E, D, R, h⟩ K Q := by
  refine WL_do (A := fun _ R' h' => R' = R.set i (blk b (wr c off (List.replicate m z)) t0) ∧ h' = h) ?_ hd hg fun _ _ _ _ ⟨e1, e2⟩ => by subst e1; subst e2; exact k
  refine Exec_of_run fun κ h0 f a w _ ha hw => ?_
  have hb := hw.obj_at hi
  have hst := run_storeCells_at (P := P) (off := off) (i := 0) (vs := List.replicate m z) hb (by simp; omega) (by simp [hzf])
  refine ⟨.tuple #[], _, h, _, .inl ?_, le.refl _, hw.turnRow hi, rfl, rfl⟩
  obtain ⟨m, rfl⟩ : ∃ m', m = m' + 1 := ⟨m - 1, by omega⟩
  simp only [Nat.add_zero] at hst
  simp only [execOp, ho, resolve, invoke, builtin, Sem.run_bind, Sem.run_pure, Result.andThen_ok]
  simp [ha.ev hx, Builtin.clear_, run_underlying w (slOf_under ht), run_zeroValue w hz, hzc, zeroCells1, hst]
end
attribute [irreducible] noG toG
end Go.Par
