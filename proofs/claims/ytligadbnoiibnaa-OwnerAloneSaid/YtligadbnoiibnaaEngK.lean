/- Engine, eleventh text: panics, deferred calls, recovery. It speaks of no program. -/
import Derived.Test.YtligadbnoiibnaaEngJ
import Derived.Recover
namespace Go.Par
open Go PH
section
variable {P : Program} {n : Nat} {o : Oper} {E : Env} {D : List Deferred} {R : List SL} {h : PH}
def notIface (P : Program) (t : TypeId) : Bool := match P.underlying t with | some (.interface _) => false | some _ => true | none => false
/-- A value of some type as a value of an interface type. -/
theorem X_makeIface {t : TypeId} {x : Operand} {v : Value} (ho : o.op = .makeInterface t x) (ht : notIface P t = true) (hx : ev E x = some v) : Exec P n o ⟨E, D, R, h⟩ (Is (.iface t v) R h) :=
  Exec_is fun a w ha => by
    unfold notIface at ht
    cases hu : P.underlying t with
    | none => rw [hu] at ht; cases ht
    | some d =>
      rw [hu] at ht
      cases d <;> first | (cases ht; done) | simp [execOp, ho, ha.ev hx, Instr.makeInterface, run_underlying w hu]
/-- It is of that type. -/
theorem X_assert_t {t u : TypeId} {x : Operand} {v : Value} (ho : o.op = .typeAssert x u t true) (ht : notIface P t = true) (hx : ev E x = some (.iface t v)) : Exec P n o ⟨E, D, R, h⟩ (Is (.tuple #[v, .bool true]) R h) :=
  Exec_is fun a w ha => by
    unfold notIface at ht
    cases hu : P.underlying t with
    | none => rw [hu] at ht; cases ht
    | some d =>
      rw [hu] at ht
      cases d <;> first | (cases ht; done) | simp [execOp, ho, ha.ev hx, Instr.typeAssert, run_underlying w hu]
/-- Nothing is of no type. -/
theorem X_assert_n {t u : TypeId} {x : Operand} {z : Value} (ho : o.op = .typeAssert x u t true) (ht : notIface P t = true) (hz : zeOf P t = some z) (hx : ev E x = some .nilIface) : Exec P n o ⟨E, D, R, h⟩ (Is (.tuple #[z, .bool false]) R h) :=
  Exec_is fun a w ha => by
    unfold notIface at ht
    cases hu : P.underlying t with
    | none => rw [hu] at ht; cases ht
    | some d =>
      rw [hu] at ht
      cases d <;> first | (cases ht; done) | simp [execOp, ho, ha.ev hx, Instr.typeAssert, run_underlying w hu, run_zeroValue w hz]
def isNilC : Operand → Bool
  | .const .nilIface => true
  | _ => false
theorem X_neNil {t u : TypeId} {x y : Operand} {ms : Array (String × TypeId)} (ho : o.op = .binOp .neq t x y u) (ht : P.underlying t = some (.interface ms)) (hx : ev E x = some .nilIface) (hy : isNilC y = true) : Exec P n o ⟨E, D, R, h⟩ (Is (.bool false) R h) :=
  Exec_is fun a w ha => by
    have hy' : y = .const .nilIface := by
      unfold isNilC at hy; split at hy
      · rfl
      · cases hy
    subst hy'
    have hr : (Op.equal t .nilIface .nilIface).run P w = .ok true w := by
      show (Op.equalIn (9999 + 1) t .nilIface .nilIface).run P w = _
      rw [Op.equalIn]
      simp [run_underlying w ht]
    have e2 : a.eval (.const .nilIface) = .nilIface := rfl
    simp [execOp, ho, ha.ev hx, e2, eqGuard, binOp, hr]
end
section
variable {P : Program} {n : Nat} {ops : Array Oper} {l : List Oper} {o : Oper} {E : Env} {D : List Deferred} {R : List SL} {h : PH} {K : S → Prop} {Q : Exit → S → Prop}
/-- A panic. -/
theorem WL_panic {x : Operand} {t : TypeId} {v : Value} (ho : o.op = .panic x) (hx : ev E x = some (.iface t v)) (hg : gd ops E o = some true) (hd : ∀ d, o.dst = some d → d < n) (k : Q (.panic [{ v := .iface t v, recovered := false }]) ⟨E, D, R, h⟩) : WL P n ops (o :: l) ⟨E, D, R, h⟩ K Q := by
  refine WL_step hg hd ?_
  intro κ h0 f a w hf ha hw next Q' h1 h2
  have hr : (execOp a.eval o).run P w = .halt (.panic (.iface t v)) w := by
    simp [execOp, ho, ha.ev hx, Instr.panic, goPanic]
  simp only [Oper.wp, hr, Oper.upon]
  exact h2 _ R h w (le.refl _) hw k
/-- A call that may end in a panic. -/
theorem WL_callP {d : Tmp} {fo : Operand} {xs : Array Operand} {tys : Array TypeId} {f : FuncId} {fi ca : Array Value} {args : List Value} {fn : Func} {A : Post}
    (ho : o.op = .call ⟨.value fo, xs, tys⟩) (hfo : ev E fo = some (.func (.func f) fi ca)) (hxs : evs E xs.toList = some args)
    (hfn : P.funcs[f]? = some fn) (hc : callable fn = true) (hd : o.dst = some d) (hg : gd ops E o = some true) (hn : Nat.blt d n = true) (hF : Does P f (fi.toList ++ args ++ ca.toList) [] h A)
    (k : ∀ v R' h', le h h' → A (.returned v) R' h' → WL P n ops l ⟨(d, v) :: E, D, R' ++ R, h'⟩ K Q) (kp : ∀ ch R' h', le h h' → A (.panicked ch) R' h' → Q (.panic ch) ⟨E, D, R' ++ R, h'⟩) (ko : ∀ R' h', ¬ A .outgrown R' h') : WL P n ops (o :: l) ⟨E, D, R, h⟩ K Q := by
  refine WL_step hg (by rw [hd]; exact dOk_lt (x := some d) hn) ((X_call ho hfo hxs hfn hc (R1 := []) (R2 := R) (by simp) hF).mono ?_)
  rintro e R' h' hle ⟨R1', rfl, hA⟩
  cases e with
  | returned v => simp only [Nx, hd]; exact k v R1' h' hle hA
  | panicked ch => exact kp ch R1' h' hle hA
  | outgrown => exact (ko _ _ hA).elim
def dfr (f : FuncId) (ca : Array Value) : Deferred := { target := .fn (.func f) ca, args := #[] }
/-- A call put off: a function that takes nothing but what it has with it. -/
theorem WL_defer {fo : Operand} {tys : Array TypeId} {f : FuncId} {ca : Array Value} (ho : o.op = .defer ⟨.value fo, #[], tys⟩) (hfo : ev E fo = some (.func (.func f) #[] ca)) (hd : o.dst = none) (hg : gd ops E o = some true)
    (k : WL P n ops l ⟨E, dfr f ca :: D, R, h⟩ K Q) : WL P n ops (o :: l) ⟨E, D, R, h⟩ K Q := by
  intro κ h0 f' a w hf ha hw m hm
  obtain ⟨h1, h2⟩ := drop_head hm
  have hom : ops[m]? = some o := by rw [← Array.getElem?_toList]; exact h1
  simp only [List.length_cons, List.range'_succ, wpOps, hom, wanted_of_gd ha hg, if_true]
  refine .inl ?_
  have hr : (execOp a.eval o).run P w = .ok (.defer (dfr f ca)) w := by
    simp [execOp, ho, resolve, Deferred.ofValue, ha.ev hfo, dfr]
  simp only [Oper.wp, hr, Oper.upon]
  refine k κ h0 f' _ w hf ?_ hw (m + 1) h2
  rw [hd]
  exact ⟨ha.1, by simp [Act.put, ha.2.1], ha.2.2⟩
end
/-- THE CONTRACT of a call that was put off, as its frame leaves in that mode. -/
def DoesD (P : Program) (f : FuncId) (args : List Value) (R : List SL) (h : PH) (u : FrameMode) (K : FrameMode → List SL → PH → Prop) : Prop :=
  ∀ (κ : World) (h0 f' : PH) (w : World), le h0 f' → St κ h0 f' R h w →
    CallsD P f args.toArray u w fun e u' w' => (∃ v, e = .returned v) ∧ ∃ R' h', le h h' ∧ St κ h0 f' R' h' w' ∧ K u' R' h'
/-- A body with one call put off. -/
def BodyD (P : Program) (n : Nat) (fn : Func) (g : FuncId) (ca : Array Value) (K : Post) : Exit → S → Prop
  | .normal, s | .ret, s => s.D = [dfr g ca] ∧ DoesD P g ca.toList s.R s.h .returning fun u' R' h' => settle u' = .returning ∧ RetOk P n fn ⟨s.E, [], R', h'⟩ K
  | .panic ch, s => s.D = [dfr g ca] ∧ DoesD P g ca.toList s.R s.h (.panicking ch) fun u' R' h' => settle u' = .returning ∧ RetOk P n fn ⟨s.E, [], R', h'⟩ K
  | _, _ => False
section
variable {P : Program} {n : Nat} {fn : Func} {R R' : List SL} {h h' : PH} {K : Post}
theorem leaves_D {κ : World} {h0 f' : PH} {a : Act} {w : World} {s : S} {g : FuncId} {gn : Func} {ca : Array Value} {u : FrameMode} (hu : u ≠ .run) (hg : P.funcs[g]? = some gn) (hgc : callable gn = true) (hf : le h0 f') (ha : EnvOk n s.E s.D a) (hw : St κ h0 f' s.R s.h w) (hD : s.D = [dfr g ca])
    (H : DoesD P g ca.toList s.R s.h u fun u' R' h' => settle u' = .returning ∧ RetOk P n fn ⟨s.E, [], R', h'⟩ K) :
    Leaves P fn a.tmps (fun e w' => e ≠ .outgrown ∧ ∃ R' h', le h0 h' ∧ St κ h0 f' R' h' w' ∧ K e R' h') a.defers u w := by
  rw [ha.2.1, hD]
  simp only [callable, Bool.and_eq_true, Bool.not_eq_true'] at hgc
  have hb : gn.body.isNone = false := by cases hh : gn.body <;> simp_all
  have hnm : (gn.name == "runtime.NumGoroutine") = false := hgc.2
  refine leaves_cons (f := g) (args := ca) hu ?_ ?_
  · simp only [invoke, callFunc, Sem.run_bind, Sem.run_pure, Result.andThen_ok, run_program, hg, hnm, hb, Array.empty_append, Bool.false_eq_true, if_false]
  · have := H κ h0 f' w hf hw
    rw [Array.toArray_toList] at this
    refine this.mono ?_
    rintro e u' w' ⟨⟨v, rfl⟩, R', h', hl, hs, hset, hR⟩
    dsimp only
    rw [hset]
    obtain ⟨v', R'', h'', hr, hs', hk⟩ := hR κ h0 f' { a with defers := [] } w' hf ⟨ha.1, rfl, ha.2.2⟩ hs
    exact ⟨v', hr, by simp, R'', h'', hs'.h_le, hs', hk⟩
/-- A function with one call put off, by its walk. -/
theorem Does_of_WD {f : FuncId} {c : Code} {args : List Value} (hf : P.funcs[f]? = some fn) (hb : fn.body = some c) (hn : Nat.beq fn.ntmps n = true) (hl : Nat.ble args.length n = true) {E : Env} (hE : argE 0 args = E)
    (k : W P n c ⟨E, [], R, h⟩ (fun e s => ∃ g gn ca, P.funcs[g]? = some gn ∧ callable gn = true ∧ BodyD P n fn g ca K e s)) : Does P f args R h K := by
  subst hE
  intro f' w hf' hw
  have hn : fn.ntmps = n := Nat.eq_of_beq_eq_true hn
  have hl : args.length ≤ n := Nat.le_of_ble_eq_true hl
  refine calls_of_wp_defers hf hb ?_
  have ha : EnvOk n (argE 0 args) [] { tmps := args.toArray ++ Array.replicate (fn.ntmps - args.toArray.size) undef, defers := [] } := by
    refine ⟨by simp [hn]; omega, rfl, ?_⟩
    intro t v ht
    have := (argE_lk args 0 t v ht).2
    have hlt : t < args.length := by
      rcases Nat.lt_or_ge t args.length with h | h
      · exact h
      · simp [List.getElem?_eq_none h] at this
    rw [Array.getElem?_append_left (by simpa using hlt)]
    simpa using this
  refine wp_mono (k w h f' _ w hf' ha hw) ?_
  rintro e a' w' ⟨he, s', h1, h2, g, gn, ca, hg, hgc, h3⟩
  cases e with
  | normal => exact leaves_D (by simp) hg hgc hf' h1 h2 h3.1 h3.2
  | ret => exact leaves_D (by simp) hg hgc hf' h1 h2 h3.1 h3.2
  | panic ch => exact leaves_D (by simp) hg hgc hf' h1 h2 h3.1 h3.2
  | exit i => exact h3.elim
  | goto i => exact h3.elim
  | outgrown => exact absurd rfl he
end
section
variable {P : Program} {n : Nat} {fn : Func} {R R' : List SL} {h h' : PH}
/-- A call put off that recovers, and hands on what it has recovered: nothing, as its frame returns; what ended it, as it panics. -/
theorem DoesD_recover {f : FuncId} {id : Nat} {ops : Array Oper} {o1 o2 : Oper} {args : List Value} {E : Env} {d1 : Tmp} {u u2 : FrameMode} {v : Value} {A : Post} {K : FrameMode → List SL → PH → Prop} (hf : P.funcs[f]? = some fn) (hb : fn.body = some (.region id ops false)) (hn : Nat.beq fn.ntmps n = true) (hl : Nat.ble args.length n = true) (hE : argE 0 args = E)
    (hops : ops = #[o1, o2]) (h1 : o1.op = .call ⟨.builtin .recover, #[], #[]⟩) (hg1 : o1.guard = none) (hd1 : o1.dst = some d1) (hn1 : Nat.blt d1 n = true) (hg2 : o2.guard = none) (hd2 : ∀ d, o2.dst = some d → d < n) (hres : fn.results = #[])
    (hu : (u = .returning ∧ u2 = .returning ∧ v = .nilIface) ∨ (u = .panicking [{ v := v, recovered := false }] ∧ u2 = .panicking [{ v := v, recovered := true }]))
    (hx : Exec P n o2 ⟨(d1, v) :: E, [], R, h⟩ A) (hA : ∀ e R' h', le h h' → A e R' h' → (∃ x, e = .returned x) ∧ K u2 R' h') : DoesD P f args R h u K := by
  subst hE; subst hops
  intro κ h0 f' w hf' hw
  have hn : fn.ntmps = n := Nat.eq_of_beq_eq_true hn
  have hl : args.length ≤ n := Nat.le_of_ble_eq_true hl
  have ha : EnvOk n (argE 0 args) [] { tmps := args.toArray ++ Array.replicate (fn.ntmps - args.toArray.size) undef, defers := [] } := by
    refine ⟨by simp [hn]; omega, rfl, ?_⟩
    intro t v ht
    have := (argE_lk args 0 t v ht).2
    have hlt : t < args.length := by
      rcases Nat.lt_or_ge t args.length with h | h
      · exact h
      · simp [List.getElem?_eq_none h] at this
    rw [Array.getElem?_append_left (by simpa using hlt)]
    simpa using this
  refine callsD_of_wpS hf hb fun c₀ cs hm => wpS_region ?_
  generalize ({ tmps := args.toArray ++ Array.replicate (fn.ntmps - args.toArray.size) undef, defers := [] } : Act) = a at ha
  have hw1 : Region.wanted o1 (yielded #[o1, o2] a.tmps) = true := by simp [Region.wanted, hg1]
  have hw2 : ∀ t, Region.wanted o2 (yielded #[o1, o2] t) = true := fun t => by simp [Region.wanted, hg2]
  have hr : (execOp a.eval o1).run P w = .ok .recover w := by simp [execOp, h1, resolve, invoke, builtin]
  have hrange : List.range (#[o1, o2] : Array Oper).size = [0, 1] := rfl
  have e0 : (#[o1, o2] : Array Oper)[0]? = some o1 := rfl
  have e1 : (#[o1, o2] : Array Oper)[1]? = some o2 := rfl
  have ha' := ha.put o1.dst v (by rw [hd1]; exact dOk_lt (x := some d1) hn1)
  rw [hd1] at ha'
  have step2 : ∀ c₁ : Frame, c₁ = { c₀ with mode := u2 } → wpOpsS P #[o1, o2] (bodyPostS P fn c₀ cs fun e u' w' => (∃ v, e = .returned v) ∧ ∃ R' h', le h h' ∧ St κ h0 f' R' h' w' ∧ K u' R' h') [1] (a.put (some d1) v) (c₁ :: cs) w := by
    intro c₁ hc₁
    have hp := hx κ h0 f' (a.put (some d1) v) w hf' ha' hw (fun a' w' => wpOpsS P #[o1, o2] (bodyPostS P fn c₀ cs fun e u' w' => (∃ v, e = .returned v) ∧ ∃ R' h', le h h' ∧ St κ h0 f' R' h' w' ∧ K u' R' h') [] a' (c₁ :: cs) w') (fun e a' w' => bodyPostS P fn c₀ cs (fun e u' w' => (∃ v, e = .returned v) ∧ ∃ R' h', le h h' ∧ St κ h0 f' R' h' w' ∧ K u' R' h') e a' (c₁ :: cs) w') ?_ ?_
    · simp only [wpOpsS, e1, hw2, if_true]
      simp only [Oper.wp] at hp
      split
      · rename_i w' hrr
        rw [hrr] at hp
        exact hp.elim
      · exact hp
    · intro x R' h'' w' hle hs hk
      obtain ⟨_, hK⟩ := hA _ _ _ hle hk
      refine ⟨by have := (ha'.put o2.dst x hd2).2.1; exact this, u2, by rw [hc₁], .tuple #[], ?_, ⟨_, rfl⟩, R', h'', hle, hs, hK⟩
      rw [results_eq, hres]; simp
    · intro ch R' h'' w' hle hs hk
      obtain ⟨⟨x, hx⟩, _⟩ := hA _ _ _ hle hk
      cases hx
  rw [hrange]
  rcases hu with ⟨rfl, rfl, rfl⟩ | ⟨rfl, rfl⟩
  · have hrec : recoverD (c₀ :: cs) = none := by simp [recoverD, hm]
    rw [wpOpsS]
    simp only [e0, hw1, if_true, hr, hrec, hd1]
    exact step2 c₀ (by cases c₀; simp_all)
  · have hrec : recoverD (c₀ :: cs) = some (v, { c₀ with mode := .panicking [{ v := v, recovered := true }] } :: cs) := by simp [recoverD, hm]
    rw [wpOpsS]
    simp only [e0, hw1, if_true, hr, hrec, hd1]
    exact step2 _ rfl
end
section
variable {P : Program} {n : Nat} {ops : Array Oper} {o : Oper} {E0 : Env} {D : List Deferred} {R : List SL} {h : PH} {K : Done → Prop} {i : Nat} {l : List Oper} {dn : Done}
/-- A store into a block that the operation alone has. -/
theorem RG_storeC {x y : Operand} {t t0 : TypeId} {b off sz : Nat} {c c' vs0 : List Value} {v : Value} (ho : o.op = .store t x y) (hx : ∀ vs, ev (av o.after.toList vs dn ++ E0) x = some (.pointer (some ⟨b, off, none⟩))) (hy : ∀ vs, ev (av o.after.toList vs dn ++ E0) y = some v)
    (hs : szOf P t = some sz) (hv : vcO v = some vs0) (hl : Nat.beq vs0.length sz = true) (hf : vs0.all flat = true) (hc : Nat.ble (off + sz) c.length = true) (hd : o.dst = none) (hg : ∀ vs, gd ops (av o.after.toList vs dn ++ E0) o = some true) (hc' : wrO c off vs0 = some c')
    (k : RG P n ops E0 D R h K (i + 1) l ((i, none, .opq (fun _ _ => True) [blk b c t0] fun _ => [blk b c' t0]) :: dn)) : RG P n ops E0 D R h K i (o :: l) dn := by
  refine ⟨.opq (fun _ _ => True) [blk b c t0] fun _ => [blk b c' t0], ⟨by rw [hd]; rfl, fun _ _ _ _ _ => trivial, .inr ⟨hg, fun vs h' _ _ => ?_⟩⟩, by rw [hd]; exact k⟩
  refine (X_store (R := [blk b c t0] ++ R) (i := 0) (t0 := t0) ho (hx vs) (hy vs) rfl hs (vcO_eq hv) (Nat.eq_of_beq_eq_true hl) hf (Nat.le_of_ble_eq_true hc)).mono ?_
  rintro e R' h'' - hA
  have hw := (wrO_eq hc').1
  cases e with
  | returned v' => exact ⟨v', rfl, trivial, by rw [hA.1, ← hw]; exact SubR.refl _⟩
  | panicked ch => exact hA.elim
  | outgrown => exact hA.elim
end
end Go.Par
