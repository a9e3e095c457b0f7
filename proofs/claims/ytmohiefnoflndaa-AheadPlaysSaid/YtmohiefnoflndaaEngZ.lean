/- Parts of one text, one behind the other: EngR EngS EngT EngU EngV EngM EngW EngX EngY EngZ. -/
import Derived.Test.YtmohiefnoflndaaEngJ
import Derived.RangeFuncRecord
/- Engine: a range over a function. It speaks of no program. -/
namespace Go.Par
open Go PH
/-- THE CONTRACT of a call of a loop's yield. -/
def DoesY (P : Program) (l : Nat) (args : List Value) (R : List SL) (h : PH) (K : Post) : Prop :=
  ∀ (f' : PH) (w : World), le h f' → St w h f' R h w →
    ∃ fn tmps assign body, (Instr.yield l args.toArray).run P w = .ok (.round l fn tmps assign body) w ∧
      RoundIn Fence.wide 0 P l fn tmps assign body w fun e w' => e ≠ .outgrown ∧ ∃ R' h', le h h' ∧ St w h f' R' h' w' ∧ K e R' h'
theorem roundIn_fen {D : List Deferred} {P : Program} {l : Nat} {fn : FuncId} {tmps : Array Value} {assign body : Code} {w : World} {R : Ending → World → Prop} (h : RoundIn Fence.wide 0 P l fn tmps assign body w R) : RoundIn (fen D) 0 P l fn tmps assign body w R := h
section
variable {P : Program} {n : Nat} {ops : Array Oper} {l : List Oper} {o : Oper} {E : Env} {D : List Deferred} {R : List SL} {h : PH} {K : S → Prop} {Q : Exit → S → Prop}
/-- A call of a loop's yield. -/
theorem X_yield {fo : Operand} {xs : Array Operand} {tys : Array TypeId} {lp : Nat} {args : List Value} {R1 R2 : List SL} {A : Post}
    (ho : o.op = .call ⟨.value fo, xs, tys⟩) (hfo : ev E fo = some (.func (.yield lp) #[] #[])) (hxs : evs E xs.toList = some args) (hR : R.Perm (R1 ++ R2)) (hF : DoesY P lp args R1 h A) :
    Exec P n o ⟨E, D, R, h⟩ (fun e R' h' => ∃ R1', R' = R1' ++ R2 ∧ A e R1' h') := by
  intro κ h0 f0 a w hf ha hw next Q h1 h2
  obtain ⟨f', hle, hs, hback⟩ := (hw.perm hR).lend hf
  obtain ⟨fn, tmps, assign, body, hy, hr⟩ := hF f' w hle hs
  have e1 : xs.map a.eval = args.toArray := map_arr (ha.evs hxs)
  have hrun : (execOp a.eval o).run P w = .ok (.round lp fn tmps assign body) w := by
    simp only [execOp, ho, resolve, Deferred.ofValue, ha.ev hfo, e1, Sem.run_bind, Sem.run_pure, Result.andThen_ok, invoke, Array.empty_append, hy]
  refine ⟨fun _ _ => trivial, ?_⟩
  rw [Oper.semAt_eq _ _ _ (by rw [ho]; intro c hc; cases hc), hrun, Oper.uponIn_round]
  refine ⟨fen_depth, roundIn_fen (hr.mono ?_)⟩
  rintro e w' ⟨he, R', h', hle', hs', hA⟩
  cases e with
  | returned v => exact h1 v _ _ _ hle' (hback _ _ _ hle' hs') ⟨R', rfl, hA⟩
  | panicked ch => exact h2 ch _ _ _ hle' (hback _ _ _ hle' hs') ⟨R', rfl, hA⟩
  | outgrown => exact absurd rfl he
theorem WL_yield (R1 R2 : List SL) {d : Tmp} {fo : Operand} {xs : Array Operand} {tys : Array TypeId} {lp : Nat} {args : List Value} {A : Value → List SL → PH → Prop}
    (ho : o.op = .call ⟨.value fo, xs, tys⟩) (hfo : ev E fo = some (.func (.yield lp) #[] #[])) (hxs : evs E xs.toList = some args) (hd : o.dst = some d) (hg : gd ops E o = some true) (hn : Nat.blt d n = true) (hR : R.Perm (R1 ++ R2)) (hF : DoesY P lp args R1 h (Ret A))
    (k : ∀ v R' h', le h h' → A v R' h' → WL P n ops l ⟨(d, v) :: E, D, R' ++ R2, h'⟩ K Q) : WL P n ops (o :: l) ⟨E, D, R, h⟩ K Q := by
  refine WL_step hg (by rw [hd]; exact dOk_lt (x := some d) hn) ((X_yield ho hfo hxs hR hF).mono ?_)
  rintro e R' h' hle ⟨R1', rfl, hA⟩
  cases e with
  | returned v => simp only [Nx, hd]; exact k v R1' h' hle hA
  | panicked ch => exact hA.elim
  | outgrown => exact hA.elim
end
/-- How a round may be left. -/
def Rnd {X : Type} (RI : X → List SL) (on : X → Prop) (out : Code → X → Prop) : Exit → S → Prop
  | .normal, s => ∃ x, SubR s.R (RI x) ∧ on x
  | .ret, s => ∃ x, SubR s.R (RI x) ∧ out .ret x
  | .exit i, s => ∃ x, SubR s.R (RI x) ∧ out (.exit i) x
  | .goto t, s => ∃ x, SubR s.R (RI x) ∧ out (.goto t) x
  | _, _ => False
/-- Where a jump leads to. -/
def QJ (Q : Exit → S → Prop) : Code → S → Prop
  | .ret, s => Q .ret s
  | .exit i, s => Q (.exit i) s
  | .goto t, s => Q (.goto t) s
  | _, _ => False
/-- THE CONTRACT of what is ranged over: it hands on these, one behind the other. -/
def Iter (P : Program) (gf : FuncId) (lb : List Value) (RC : List SL) (N : Nat) (args : Nat → List Value) (h : PH) : Prop :=
  ∀ (l : Nat) (T : Nat → SL) (Tx : Nat → SL), (∀ i h', i < N → le h h' → DoesY P l (args i) [T i] h' (Ret fun v R' _ => (v = .bool true ∧ R' = [T (i + 1)]) ∨ (v = .bool false ∧ R' = [Tx i]))) →
    Does P gf (.func (.yield l) #[] #[] :: lb) (T 0 :: RC) h (Ret fun _ R' _ => (∃ R2, R' = T N :: R2) ∨ ∃ i, i < N ∧ ∃ R2, R' = Tx i :: R2)
def putL : List Tmp → List Value → Env → Env
  | t :: ts, v :: vs, E => putL ts vs ((t, v) :: E)
  | _, _, E => E
theorem putL_ok {n : Nat} {D : List Deferred} : ∀ {ts : List Tmp} {vs : List Value} {E : Env} {a : Array Value}, (∀ t ∈ ts, t < n) → EnvOk n E D ⟨a, dsOf D⟩ → EnvOk n (putL ts vs E) D ⟨(ts.zip vs).foldl (fun tm (t, v) => tm.setIfInBounds t v) a, dsOf D⟩
  | [], _, _, _, _, h => h
  | _ :: _, [], _, _, _, h => h
  | t :: ts, v :: vs, E, a, hn, h => by
    simp only [putL, List.zip_cons_cons, List.foldl_cons]
    refine putL_ok (fun u hu => hn u (List.mem_cons_of_mem _ hu)) ?_
    exact h.put (some t) v (fun d hd => by cases hd; exact hn t List.mem_cons_self)
/-- The mark of an outermost loop. -/
def mkd (b : Nat) : Deferred := { target := .collected b, args := #[] }
def lrec (fn : FuncId) (tmps : Array Value) (ps : Array Tmp) (assign body : Code) (b : Nat) (st : LoopState) (pe : Option Code) : Loop := { state := st, pending := pe, fn, tmps, params := ps, assign, body, defers := b }
theorem St.wkn {κ : World} {h0 f : PH} {R R' : List SL} {h : PH} {w : World} (H : ∀ g, stars R g → stars R' g) (s : St κ h0 f R h w) : St κ h0 f R' h w := by
  obtain ⟨a, g, k, e, hr, rest⟩ := s
  exact ⟨a, g, k, e, H g hr, rest⟩
theorem St.exs {X : Type} {κ : World} {h0 f : PH} {R : List SL} {R' : X → List SL} {p : X → Prop} {h : PH} {w : World} (H : ∀ g, stars R g → ∃ x, p x ∧ stars (R' x) g) (s : St κ h0 f R h w) : ∃ x, p x ∧ St κ h0 f (R' x) h w := by
  obtain ⟨a, g, k, e, hr, rest⟩ := s
  obtain ⟨x, hp, hx⟩ := H g hr
  exact ⟨x, hp, a, g, k, e, hx, rest⟩
/-- Some resources as one. -/
def pack {X : Type} (RI : X → List SL) (p : X → Prop) : SL := fun g => ∃ x, p x ∧ stars (RI x) g
theorem St.pack {X : Type} {RI : X → List SL} {p : X → Prop} {κ : World} {h0 f : PH} {R : List SL} {h : PH} {w : World} (x : X) (hx : p x) (s : St κ h0 f (RI x ++ R) h w) : St κ h0 f (Par.pack RI p :: R) h w :=
  s.wkn fun g hg => by
    obtain ⟨a, b, e, hd, ha, hb⟩ := stars_append.1 hg
    exact ⟨a, b, e, hd, ⟨x, hx, ha⟩, hb⟩
theorem St.unpack {X : Type} {RI : X → List SL} {p : X → Prop} {κ : World} {h0 f : PH} {R : List SL} {h : PH} {w : World} (s : St κ h0 f (Par.pack RI p :: R) h w) : ∃ x, p x ∧ St κ h0 f (RI x ++ R) h w :=
  s.exs fun g hg => by
    obtain ⟨a, b, e, hd, ⟨x, hx, ha⟩, hb⟩ := hg
    exact ⟨x, hx, stars_append.2 ⟨a, b, e, hd, ha, hb⟩⟩
theorem St.putObj {κ : World} {h0 f : PH} {R : List SL} {h : PH} {w : World} {l : Nat} {o : Obj} (o' : Obj) (s : St κ h0 f (obj l o :: R) h w) : St κ h0 f (obj l o' :: R) h (w.putObj l o') := by
  have hb := s.obj_at (i := 0) rfl
  have hl : l < w.heap.size := (Array.getElem?_eq_some_iff.1 hb).1
  exact s.turn (i := 0) (o' := o') rfl (by simp) rfl rfl rfl (World.putObj_heap_same hl) (fun b' hne => World.putObj_heap_other hne)
theorem back_sub {RI R2 : List SL} {d : Nat} {o : Obj} (l : Nat) (R3 : List SL) : SubR ((obj l o :: RI) ++ (R3 ++ (obj d (.deferred (some [])) :: R2))) (RI ++ (obj d (.deferred (some [])) :: R2)) := by
  simp only [List.cons_append]
  refine SubR.skip _ ?_
  refine ⟨R3, ?_⟩
  rw [List.append_assoc]
  refine List.Perm.append_left _ ?_
  exact List.perm_append_comm
section
variable {P : Program} {n : Nat} {E : Env} {D : List Deferred} {R : List SL} {h : PH} {Q : Exit → S → Prop}
set_option maxHeartbeats 1000000 in
/-- THE RULE for a range over a function, an outermost one. -/
theorem W_rangeF {X : Type} {g : Operand} {ps : Array Tmp} {assign body : Code} {gf : FuncId} {gn : Func} {lb : List Value} {RC R2 : List SL} {N : Nat} {args : Nat → List Value} (RI : X → List SL) (p : Nat → X → Prop) (px : Nat → Code → X → Prop) (x0 : X)
    (hg : ev E g = some (.func (.func gf) #[] lb.toArray)) (hfn : P.funcs[gf]? = some gn) (hc : callable gn = true) (hps : ∀ t ∈ ps.toList, t < n) (hal : ∀ i, (args i).length = ps.size)
    (hro : roOf D = none) (hrm : ∀ b, roOf (mkd b :: D) = none) (hR : R.Perm (RI x0 ++ (RC ++ R2))) (hp0 : p 0 x0) (hit : ∀ h', le h h' → Iter P gf lb RC N args h')
    (hround : ∀ l i x h', i < N → le h h' → p i x → W P n assign ⟨putL ps.toList (args i) E, [rmk l], RI x, h'⟩ (Then (fun s' => W P n body s' (Rnd RI (p (i + 1)) (px i))) (fun _ _ => False)))
    (hdone : ∀ b x h', le h h' → p N x → Q .normal ⟨E, mkd b :: D, RI x ++ (obj b (.deferred (some [])) :: R2), h'⟩)
    (hstop : ∀ b i c x h', le h h' → i < N → px i c x → QJ Q c ⟨E, mkd b :: D, RI x ++ (obj b (.deferred (some [])) :: R2), h'⟩) :
    W P n (.rangeFunc g ps assign body) ⟨E, D, R, h⟩ Q := by
  intro κ h0 f a w hf ha hw
  have hpx : ∀ i c x, i < N → px i c x → c = .ret ∨ (∃ j, c = .exit j) ∨ ∃ t, c = .goto t := fun i c x hi hx => by
    have := hstop 0 i c x h (le.refl _) hi hx
    cases c with
    | ret => exact .inl rfl
    | exit j => exact .inr (.inl ⟨j, rfl⟩)
    | goto t => exact .inr (.inr ⟨t, rfl⟩)
    | _ => exact this.elim
  refine wpIn_rangeFunc ?_
  intro fn _
  have hro' : (fen D).round = none := hro
  simp only [hro']
  obtain ⟨b, hb⟩ : ∃ b, b = w.heap.size := ⟨_, rfl⟩
  obtain ⟨rec, hrec⟩ : ∃ rec : LoopState → Option Code → Loop, rec = lrec fn a.tmps ps assign body b := ⟨_, rfl⟩
  have hent := run_enterLoop_outer (P := P) (w := w) fn a.tmps ps assign body
  obtain ⟨w1, hw1⟩ : ∃ w1, w1 = (w.alloc (.deferred (some []))).alloc (.loop (rec .ready none)) := ⟨_, rfl⟩
  have s1 : St κ h0 f (obj (b + 1) (.loop (rec .ready none)) :: obj b (.deferred (some [])) :: R) h w1 := by
    have t1 := hw.new (.deferred (some []))
    have t2 := t1.new (.loop (rec .ready none))
    have e : (w.heap.push (.deferred (some []))).size = b + 1 := by simp [hb]
    simp only [e] at t2
    rw [← hb] at t2
    rw [hw1]; exact t2
  refine ⟨b + 1, [mkd b], w1, { target := .fn (.func gf) lb.toArray, args := #[.func (.yield (b + 1)) #[] #[]] }, w1, gf, (.func (.yield (b + 1)) #[] #[] :: lb).toArray, w1, ?_, ?_, fun _ _ => trivial, ?_, fen_depth, ?_⟩
  · rw [hent, hw1, hrec, hb]; rfl
  · have := ha.ev hg
    have e2 : a.eval (.const (.func (.yield (b + 1)) #[] #[])) = .func (.yield (b + 1)) #[] #[] := rfl
    simp [resolve, Deferred.ofValue, this, e2]
  · simp only [callable, Bool.and_eq_true, Bool.not_eq_true'] at hc
    have hbn : gn.body.isNone = false := by cases hh : gn.body <;> simp_all
    have hnm : (gn.name == "runtime.NumGoroutine") = false := hc.2
    have ea : (#[.func (.yield (b + 1)) #[] #[]] : Array Value) ++ lb.toArray = (.func (.yield (b + 1)) #[] #[] :: lb).toArray := by simp
    simp only [invoke, callFunc, Sem.run_bind, Sem.run_pure, Result.andThen_ok, run_program, hfn, hnm, hbn, ea, Bool.false_eq_true, if_false]
  -- the resources, as the loop sees them
  have hT : ∀ (st : LoopState) (pe : Option Code) (q : X → Prop), True := fun _ _ _ => trivial
  clear hT
  obtain ⟨T, hTe⟩ : ∃ T : Nat → SL, T = fun i => pack (fun x => obj (b + 1) (.loop (rec .ready none)) :: RI x) (p i) := ⟨_, rfl⟩
  obtain ⟨Tx, hTxe⟩ : ∃ Tx : Nat → SL, Tx = fun i => pack (fun cx : Code × X => obj (b + 1) (.loop (rec .done (some cx.1))) :: RI cx.2) (fun cx => px i cx.1 cx.2) := ⟨_, rfl⟩
  have s2 : St κ h0 f ((T 0 :: RC) ++ (obj b (.deferred (some [])) :: R2)) h w1 := by
    rw [hTe]
    have hperm : (obj b (.deferred (some [])) :: R).Perm (RI x0 ++ (RC ++ (obj b (.deferred (some [])) :: R2))) := by
      refine (List.Perm.cons _ hR).trans ?_
      rw [← List.append_assoc, ← List.append_assoc]
      exact List.perm_middle.symm
    exact St.pack (RI := fun x => obj (b + 1) (.loop (rec .ready none)) :: RI x) x0 hp0 (s1.perm (List.Perm.cons _ hperm))
  obtain ⟨f1, hle1, hs1, hback⟩ := s2.lend hf
  -- the rounds
  have hrounds : ∀ i h', i < N → le h h' → DoesY P (b + 1) (args i) [T i] h' (Ret fun v R' _ => (v = .bool true ∧ R' = [T (i + 1)]) ∨ (v = .bool false ∧ R' = [Tx i])) := by
    intro i h' hi hle f' w' hf' hs
    rw [hTe] at hs
    obtain ⟨x, hx, hs⟩ := St.unpack hs
    have hl := hs.obj_at (i := 0) rfl
    have hy := run_yield (P := P) (args := (args i).toArray) hl (by simp [hrec, lrec, hal i])
    refine ⟨_, _, _, _, hy, ?_⟩
    obtain ⟨f'', hle'', hst, hbk⟩ := (hs.perm (List.perm_append_comm (l₁ := [obj (b + 1) (.loop (rec .ready none))]) (l₂ := RI x ++ []))).lend (R1 := RI x ++ []) hf'
    rw [List.append_nil] at hst
    have hEnv : EnvOk n (putL ps.toList (args i) E) [rmk (b + 1)] { tmps := ((rec .ready none).params.zip (args i).toArray).foldl (fun tmps (t, a) => tmps.setIfInBounds t a) (rec .ready none).tmps, defers := [] } := by
      have h1 : EnvOk n E [rmk (b + 1)] ⟨a.tmps, dsOf [rmk (b + 1)]⟩ := ⟨ha.1, rfl, ha.2.2⟩
      have h2 := putL_ok (vs := args i) hps h1
      have e : ((rec .ready none).params.zip (args i).toArray).foldl (fun tmps (t, a) => tmps.setIfInBounds t a) (rec .ready none).tmps = (ps.toList.zip (args i)).foldl (fun tm (t, v) => tm.setIfInBounds t v) a.tmps := by
        rw [hrec]
        simp only [lrec]
        rw [← Array.foldl_toList]
        simp [Array.toList_zip]
      rw [e]; exact h2
    have hrd := hround (b + 1) i x h' hi hle hx w' h' f'' _ w' hle'' hEnv hst
    refine roundIn_of_wpIn trivial ?_
    have ha1 : (rec .ready none).assign = assign := by rw [hrec]; rfl
    have ha2 : (rec .ready none).body = body := by rw [hrec]; rfl
    rw [ha1, ha2]
    refine wpIn_mono (F := fen [rmk (b + 1)]) hrd ?_
    rintro e a' w2 ⟨he, s', k1, ⟨k2, k2'⟩, k3⟩
    cases e with
    | normal =>
      have hle2 : le h' s'.h := k2.h_le
      have t1 := (hbk _ _ _ hle2 k2).perm List.perm_append_comm
      have hl2 := t1.obj_at (i := 0) rfl
      have hrr : (rec .ready none).state = .ready := by rw [hrec]; rfl
      refine ⟨_, run_beginRound hl2 hrr, ?_⟩
      have hbusy : ({ rec .ready none with state := .busy } : Loop) = rec .busy none := by rw [hrec]; rfl
      rw [hbusy]
      have t2 := t1.putObj (.loop (rec .busy none))
      have hf2 : le h' f' := hf'
      obtain ⟨f3, hle3, hst3, hbk3⟩ := (t2.perm (List.perm_append_comm (l₁ := [obj (b + 1) (.loop (rec .busy none))]))).lend hf2
      have hb3 := k3 _ s'.h f3 a' _ hle3 k1 hst3
      have hfe : fen s'.D = fen [rmk (b + 1)] := by simp only [fen, k2']
      rw [hfe] at hb3
      refine wpIn_mono (F := fen [rmk (b + 1)]) hb3 ?_
      have fin : ∀ (s3 : S) (w4 : World) (x' : X), St (w2.putObj (b + 1) (.loop (rec .busy none))) s'.h f3 s3.R s3.h w4 → SubR s3.R (RI x') → le h' s3.h ∧ St w' h' f' (obj (b + 1) (.loop (rec .busy none)) :: (RI x' ++ [])) s3.h w4 := by
        intro s3 w4 x' m2 hsub
        have m3 := (hbk3 _ _ _ m2.h_le (m2.sub hsub)).perm List.perm_append_comm
        exact ⟨hle2.trans m2.h_le, by simpa using m3⟩
      rintro e2 a4 w4 ⟨he2, s3, m1, ⟨m2, _⟩, m3⟩
      cases e2 with
      | normal =>
        obtain ⟨x', hsub, hon⟩ := m3
        obtain ⟨q1, q2⟩ := fin s3 w4 x' m2 hsub
        have hl4 := q2.obj_at (i := 0) rfl
        refine ⟨_, _, run_endRound none hl4, by simp, [T (i + 1)], s3.h, q1, ?_, .inl ⟨rfl, rfl⟩⟩
        have er : ({ rec .busy none with state := if (none : Option Code).isNone then .ready else .done, pending := none } : Loop) = rec .ready none := by rw [hrec]; rfl
        rw [er, hTe]
        exact St.pack (RI := fun x => obj (b + 1) (.loop (rec .ready none)) :: RI x) x' hon (q2.putObj _)
      | ret =>
        obtain ⟨x', hsub, hon⟩ := m3
        obtain ⟨q1, q2⟩ := fin s3 w4 x' m2 hsub
        have hl4 := q2.obj_at (i := 0) rfl
        refine ⟨_, _, run_endRound (some .ret) hl4, by simp, [Tx i], s3.h, q1, ?_, .inr ⟨rfl, rfl⟩⟩
        have er : ({ rec .busy none with state := if (some Code.ret).isNone then .ready else .done, pending := some .ret } : Loop) = rec .done (some .ret) := by rw [hrec]; rfl
        rw [er, hTxe]
        exact St.pack (RI := fun cx : Code × X => obj (b + 1) (.loop (rec .done (some cx.1))) :: RI cx.2) (Code.ret, x') hon (q2.putObj _)
      | exit j =>
        obtain ⟨x', hsub, hon⟩ := m3
        obtain ⟨q1, q2⟩ := fin s3 w4 x' m2 hsub
        have hl4 := q2.obj_at (i := 0) rfl
        refine ⟨_, _, run_endRound (some (.exit j)) hl4, by simp, [Tx i], s3.h, q1, ?_, .inr ⟨rfl, rfl⟩⟩
        have er : ({ rec .busy none with state := if (some (Code.exit j)).isNone then .ready else .done, pending := some (.exit j) } : Loop) = rec .done (some (.exit j)) := by rw [hrec]; rfl
        rw [er, hTxe]
        exact St.pack (RI := fun cx : Code × X => obj (b + 1) (.loop (rec .done (some cx.1))) :: RI cx.2) (Code.exit j, x') hon (q2.putObj _)
      | goto t =>
        obtain ⟨x', hsub, hon⟩ := m3
        obtain ⟨q1, q2⟩ := fin s3 w4 x' m2 hsub
        have hl4 := q2.obj_at (i := 0) rfl
        refine ⟨_, _, run_endRound (some (.goto t)) hl4, by simp, [Tx i], s3.h, q1, ?_, .inr ⟨rfl, rfl⟩⟩
        have er : ({ rec .busy none with state := if (some (Code.goto t)).isNone then .ready else .done, pending := some (.goto t) } : Loop) = rec .done (some (.goto t)) := by rw [hrec]; rfl
        rw [er, hTxe]
        exact St.pack (RI := fun cx : Code × X => obj (b + 1) (.loop (rec .done (some cx.1))) :: RI cx.2) (Code.goto t, x') hon (q2.putObj _)
      | panic c => exact m3.elim
      | outgrown => exact absurd rfl he2
    | exit i => exact k3.elim
    | goto i => exact k3.elim
    | ret => exact k3.elim
    | panic c => exact k3.elim
    | outgrown => exact absurd rfl he
  have hcall := hit h (le.refl _) (b + 1) T Tx hrounds f1 w1 hle1 hs1
  refine callsIn_fen (hcall.mono ?_)
  rintro e w3 ⟨he, R', h', hle', hs', hA⟩
  have hEnv : EnvOk n E (mkd b :: D) { a with defers := [mkd b] ++ a.defers } := ⟨ha.1, by simp [ha.2.1, dsOf, hrm b, hro], ha.2.2⟩
  cases e with
  | outgrown => exact absurd rfl he
  | panicked ch => exact hA.elim
  | returned v =>
    have hbk := hback _ _ _ hle' hs'
    rcases hA with ⟨R3, rfl⟩ | ⟨i, hi, R3, rfl⟩
    · rw [hTe] at hbk
      obtain ⟨x, hx, q⟩ := St.unpack hbk
      have hl := q.obj_at (i := 0) rfl
      refine ⟨_, _, run_endLoop hl (by rw [hrec]; simp [lrec]), ?_⟩
      have hpe : (rec .ready none).pending = none := by rw [hrec]; rfl
      rw [hpe]
      refine ⟨by simp, ⟨E, mkd b :: D, RI x ++ (obj b (.deferred (some [])) :: R2), h'⟩, hEnv, ⟨?_, by simp [hrm b, hro]⟩, hdone b x h' hle' hx⟩
      exact (q.putObj _).sub (back_sub _ R3)
    · rw [hTxe] at hbk
      obtain ⟨⟨c, x⟩, hx, q⟩ := St.unpack hbk
      have hl := q.obj_at (i := 0) rfl
      have hend := run_endLoop (P := P) hl (by rw [hrec]; simp [lrec])
      have hpe : (rec .done (some c)).pending = some c := by rw [hrec]; rfl
      have hq := hstop b i c x h' hle' hi hx
      have hst := (q.putObj (.loop { rec .done (some c) with state := .exhausted })).sub (back_sub (o := _) (d := b) (RI := RI x) (R2 := R2) _ R3)
      generalize w3.putObj (b + 1) (.loop { rec .done (some c) with state := .exhausted }) = w4 at hend hst
      rw [hpe] at hend
      refine ⟨_, w4, hend, ?_⟩
      have hrr : roOf (mkd b :: D) = roOf D := by rw [hrm b, hro]
      rcases hpx i c x hi hx with rfl | ⟨j, rfl⟩ | ⟨t, rfl⟩
      · exact wpIn_ret ⟨by simp, ⟨E, mkd b :: D, RI x ++ (obj b (.deferred (some [])) :: R2), h'⟩, hEnv, ⟨hst, hrr⟩, hq⟩
      · exact wpIn_exit ⟨by simp, ⟨E, mkd b :: D, RI x ++ (obj b (.deferred (some [])) :: R2), h'⟩, hEnv, ⟨hst, hrr⟩, hq⟩
      · exact wpIn_goto ⟨by simp, ⟨E, mkd b :: D, RI x ++ (obj b (.deferred (some [])) :: R2), h'⟩, hEnv, ⟨hst, hrr⟩, hq⟩
end
/-- A body that may hold one outermost range over a function. -/
def BodyM (P : Program) (n : Nat) (fn : Func) (K : Post) : Exit → S → Prop
  | .normal, s | .ret, s => (s.D = [] ∧ RetOk P n fn s K) ∨ ∃ b R1, s.D = [mkd b] ∧ SubR s.R (obj b (.deferred (some [])) :: R1) ∧ RetOk P n fn ⟨s.E, [], R1, s.h⟩ K
  | _, _ => False
theorem Does_of_WM {P : Program} {n : Nat} {h : PH} {R : List SL} {K : Post} {fn : Func} {f : FuncId} {c : Code} {args : List Value} (hf : P.funcs[f]? = some fn) (hb : fn.body = some c) (hn : Nat.beq fn.ntmps n = true) (hl : Nat.ble args.length n = true) {E : Env} (hE : argE 0 args = E)
    (k : W P n c ⟨E, [], R, h⟩ (BodyM P n fn K)) : Does P f args R h K := by
  subst hE
  intro f' w hf' hw
  have hn : fn.ntmps = n := Nat.eq_of_beq_eq_true hn
  have hl : args.length ≤ n := Nat.le_of_ble_eq_true hl
  refine (callsIn_wide (n := 0)).1 (callsIn_of_wp_marks hf hb trivial ?_)
  have ha : EnvOk n (argE 0 args) [] { tmps := args.toArray ++ Array.replicate (fn.ntmps - args.toArray.size) undef, defers := [] } := by
    refine ⟨by simp [hn]; omega, rfl, ?_⟩
    intro t v ht
    have := (argE_lk args 0 t v ht).2
    have hlt : t < args.length := by
      rcases Nat.lt_or_ge t args.length with h | h
      · exact h
      · simp [List.getElem?_eq_none h] at this
    rw [Array.getElem?_append_left (by simpa using hlt)]
    simpa using this
  refine wpIn_mono (F := Fence.wide) (k w h f' _ w hf' ha hw) ?_
  rintro e a' w' ⟨he, s', h1, ⟨h2, _⟩, h3⟩
  have fin : ((s'.D = [] ∧ RetOk P n fn s' K) ∨ ∃ b R1, s'.D = [mkd b] ∧ SubR s'.R (obj b (.deferred (some [])) :: R1) ∧ RetOk P n fn ⟨s'.E, [], R1, s'.h⟩ K) →
      LeavesInM Fence.wide 0 P fn a'.tmps (fun e w' => e ≠ .outgrown ∧ ∃ R' h', le h h' ∧ St w h f' R' h' w' ∧ K e R' h') a'.defers .returning w' := by
    rintro (⟨hD, hR⟩ | ⟨b, R1, hD, hR1, hR⟩)
    · obtain ⟨v, R', h', hr, hs, hk⟩ := hR w h f' a' w' hf' h1 h2
      rw [show a'.defers = [] from h1.2.1.trans (by rw [hD]; rfl)]
      exact ⟨v, hr, by simp, R', h', hs.h_le, hs, hk⟩
    · rw [show a'.defers = [mkd b] from h1.2.1.trans (by rw [hD]; rfl)]
      have t1 := h2.sub hR1
      have hb := t1.obj_at (i := 0) rfl
      have t2 := t1.putObj (.deferred none)
      have t3 : St w h f' R1 s'.h (w'.putObj b (.deferred none)) := t2.drop (i := 0)
      obtain ⟨v, R', h', hr, hs, hk⟩ := hR w h f' { a' with defers := [] } _ hf' ⟨h1.1, rfl, h1.2.2⟩ t3
      exact ⟨by simp, .inl ⟨b, _, rfl, run_takeDeferred hb, v, hr, by simp, R', h', hs.h_le, hs, hk⟩⟩
  cases e with
  | normal => exact fin h3
  | ret => exact fin h3
  | panic ch => exact h3.elim
  | exit i => exact h3.elim
  | goto i => exact h3.elim
  | outgrown => exact absurd rfl he
theorem BodyM_0 {P : Program} {n : Nat} {fn : Func} {K : Post} {s : S} (h : Body P n fn K .ret s) : BodyM P n fn K .ret s := .inl h
theorem BodyM_00 {P : Program} {n : Nat} {fn : Func} {K : Post} {s : S} (h : Body P n fn K .normal s) : BodyM P n fn K .normal s := .inl h
theorem BodyM_1 {P : Program} {n : Nat} {fn : Func} {K : Post} {E : Env} {b : Nat} {R R1 : List SL} {h : PH} (hR : SubR R (obj b (.deferred (some [])) :: R1)) (k : Body P n fn K .ret ⟨E, [], R1, h⟩) : BodyM P n fn K .ret ⟨E, [mkd b], R, h⟩ := .inr ⟨b, R1, rfl, hR, k.2⟩
theorem BodyM_10 {P : Program} {n : Nat} {fn : Func} {K : Post} {E : Env} {b : Nat} {R R1 : List SL} {h : PH} (hR : SubR R (obj b (.deferred (some [])) :: R1)) (k : Body P n fn K .normal ⟨E, [], R1, h⟩) : BodyM P n fn K .normal ⟨E, [mkd b], R, h⟩ := .inr ⟨b, R1, rfl, hR, k.2⟩
end Go.Par

/- Engine: strings cut, joined, copied; the lesser of two. It speaks of no program. -/
namespace Go.Par
open Go PH
def bytesV (s : ByteArray) : List Value := s.data.toList.map fun b => .int .u8 b.toNat
theorem bytesV_len (s : ByteArray) : (bytesV s).length = s.size := by simp [bytesV]
theorem bytesV_flat (s : ByteArray) : (bytesV s).all flat = true := by
  rw [List.all_eq_true]; intro x hx
  simp only [bytesV, List.mem_map] at hx
  obtain ⟨b, _, rfl⟩ := hx; rfl
section
variable {P : Program} {n : Nat} {ops : Array Oper} {l : List Oper} {o : Oper} {E : Env} {D : List Deferred} {R : List SL} {h : PH} {K : S → Prop} {Q : Exit → S → Prop}
theorem X_sliceS_hi {x y : Operand} {t : TypeId} {s : ByteArray} {k : IntKind} {j : Int} (ho : o.op = .slice t x none (some y) none) (ht : P.underlying t = some .string) (hx : ev E x = some (.string s)) (hy : ev E y = some (.int k j)) (h0 : 0 ≤ j) (h1 : j ≤ s.size) :
    Exec P n o ⟨E, D, R, h⟩ (Is (.string (s.extract 0 j.toNat)) R h) :=
  Exec_is fun a w ha => by
    have h2 : j.toNat ≤ s.size := by omega
    simp [execOp, ho, ha.ev hx, ha.ev hy, Instr.sliceAt, Instr.slice, Instr.sliceBounds, Instr.sliceBound, asIntOf, run_underlying w ht, h0, h1]
theorem X_sliceS_lo {x y : Operand} {t : TypeId} {s : ByteArray} {k : IntKind} {j : Int} (ho : o.op = .slice t x (some y) none none) (ht : P.underlying t = some .string) (hx : ev E x = some (.string s)) (hy : ev E y = some (.int k j)) (h0 : 0 ≤ j) (h1 : j ≤ s.size) :
    Exec P n o ⟨E, D, R, h⟩ (Is (.string (s.extract j.toNat s.size)) R h) :=
  Exec_is fun a w ha => by
    simp [execOp, ho, ha.ev hx, ha.ev hy, Instr.sliceAt, Instr.slice, Instr.sliceBounds, Instr.sliceBound, asIntOf, run_underlying w ht, h0, h1]
theorem X_sliceS {x y z : Operand} {t : TypeId} {s : ByteArray} {k k2 : IntKind} {i j : Int} (ho : o.op = .slice t x (some y) (some z) none) (ht : P.underlying t = some .string) (hx : ev E x = some (.string s)) (hy : ev E y = some (.int k i)) (hz : ev E z = some (.int k2 j)) (h0 : 0 ≤ i) (h1 : i ≤ j) (h2 : j ≤ s.size) :
    Exec P n o ⟨E, D, R, h⟩ (Is (.string (s.extract i.toNat j.toNat)) R h) :=
  Exec_is fun a w ha => by
    have h3 : 0 ≤ j := by omega
    have h4 : i ≤ (j.toNat : Int) := by omega
    obtain ⟨i, rfl⟩ := Int.eq_ofNat_of_zero_le h0
    obtain ⟨j, rfl⟩ := Int.eq_ofNat_of_zero_le h3
    have h5 : i ≤ j := by omega
    have h6 : j ≤ s.size := by omega
    simp [execOp, ho, ha.ev hx, ha.ev hy, ha.ev hz, Instr.sliceAt, Instr.slice, Instr.sliceBounds, Instr.sliceBound, asIntOf, run_underlying w ht, h5, h6]
theorem X_addS {x y : Operand} {t u : TypeId} {a b : ByteArray} (ho : o.op = .binOp .add t x y u) (hx : ev E x = some (.string a)) (hy : ev E y = some (.string b)) (hb : (a.size : Int) + b.size ≤ 9223372036854775807) :
    Exec P n o ⟨E, D, R, h⟩ (Is (.string (a ++ b)) R h) :=
  Exec_is fun ac w ha => by
    have h1 : ¬ (((a.size + b.size : Nat) : Int) > IntKind.i64.max) := by rw [show IntKind.i64.max = 9223372036854775807 from rfl]; omega
    simp only [execOp, ho, ha.ev hx, ha.ev hy, binOp, Op.stringOp, h1, if_false]
    simp [eqGuard]
theorem X_neS_c {t u : TypeId} {x y : Operand} {a b : ByteArray} {c : Bool} (ho : o.op = .binOp .neq t x y u) (hx : ev E x = some (.string a)) (hy : ev E y = some (.string b)) (hc : (a == b) = c) : Exec P n o ⟨E, D, R, h⟩ (Is (.bool (!c)) R h) := by
  subst hc; exact X_neS ho hx hy
theorem X_min {x y : Operand} {t u : TypeId} {k k2 : IntKind} {a b : Int} (ho : o.op = .call ⟨.builtin .min, #[x, y], #[t, u]⟩) (hx : ev E x = some (.int k a)) (hy : ev E y = some (.int k2 b)) : Exec P n o ⟨E, D, R, h⟩ (Is (.int k (min a b)) R h) :=
  Exec_is fun ac w ha => by
    have e : (if b < a then b else a) = min a b := by rw [Int.min_def]; split <;> split <;> omega
    simp [execOp, ho, resolve, invoke, builtin, Builtin.min_, Builtin.min2, ha.ev hx, ha.ev hy, e]
theorem X_max {x y : Operand} {t u : TypeId} {k k2 : IntKind} {a b : Int} (ho : o.op = .call ⟨.builtin .max, #[x, y], #[t, u]⟩) (hx : ev E x = some (.int k a)) (hy : ev E y = some (.int k2 b)) : Exec P n o ⟨E, D, R, h⟩ (Is (.int k (max a b)) R h) :=
  Exec_is fun ac w ha => by
    have e : (if a < b then b else a) = max a b := by rw [Int.max_def]; split <;> split <;> omega
    simp [execOp, ho, resolve, invoke, builtin, Builtin.max_, Builtin.max2, ha.ev hx, ha.ev hy, e]
/-- An array's rest as a slice. -/
theorem X_sliceArrLo {x y : Operand} {t e : TypeId} {b len sz : Nat} {j : Int} {k : IntKind} (ho : o.op = .slice t x (some y) none none) (ht : arOf P t = some (len, e)) (hs : szOf P e = some sz) (hx : ev E x = some (.pointer (some ⟨b, 0, none⟩))) (hy : ev E y = some (.int k j)) (h0 : 0 ≤ j) (h1 : j ≤ len) :
    Exec P n o ⟨E, D, R, h⟩ (Is (.slice (some ⟨b, if len = j.toNat then 0 else j.toNat * sz, none⟩) (len - j.toNat) (len - j.toNat)) R h) :=
  Exec_is fun a w ha => by
    have e1 : a.eval x = .pointer (some ⟨b, 0, none⟩) := ha.ev hx
    obtain ⟨j, rfl⟩ := Int.eq_ofNat_of_zero_le h0
    have h1' : j ≤ len := by omega
    simp only [execOp, ho, e1]
    by_cases hj : len = j
    · simp [ha.ev hy, Instr.sliceAt, Instr.sliceBounds, Instr.sliceBound, asIntOf, run_underlying w (arOf_under ht), run_sizeOf w hs, add_spot, hj, Instr.sureAddr]
    · simp [ha.ev hy, Instr.sliceAt, Instr.sliceBounds, Instr.sliceBound, asIntOf, run_underlying w (arOf_under ht), run_sizeOf w hs, add_spot, h1', hj, Instr.sureAddr]
/-- A string copied into a block of one's own. -/
theorem WL_copyS {d : Tmp} {x y : Operand} {t tx t0 e : TypeId} {b off m cap i : Nat} {c : List Value} {s : ByteArray} (ho : o.op = .call ⟨.builtin .copy, #[x, y], #[t, tx]⟩) (ht : slOf P t = some e) (hs : szOf P e = some 1)
    (hx : ev E x = some (.slice (some ⟨b, off, none⟩) m cap)) (hy : ev E y = some (.string s)) (hm : s.size ≤ m) (hi : R[i]? = some (blk b c t0)) (hc : off + s.size ≤ c.length) (hd : o.dst = some d) (hg : gd ops E o = some true) (hn : Nat.blt d n = true)
    (k : WL P n ops l ⟨(d, .int .i64 s.size) :: E, D, R.set i (blk b (wr c off (bytesV s)) t0), h⟩ K Q) : WL P n ops (o :: l) ⟨E, D, R, h⟩ K Q := by
  refine WL_any (A := fun v R' h' => v = .int .i64 s.size ∧ R' = R.set i (blk b (wr c off (bytesV s)) t0) ∧ h' = h) ?_ hd hg hn fun _ _ _ _ ⟨e0, e1, e2⟩ => by subst e0; subst e1; subst e2; exact k
  refine Exec_of_run fun κ h0 f a w _ ha hw => ?_
  have hb := hw.obj_at hi
  have hst := run_storeCells_at (P := P) (off := off) (i := 0) (vs := bytesV s) hb (by rw [bytesV_len]; omega) (bytesV_flat s)
  refine ⟨_, _, h, _, .inl ?_, le.refl _, hw.turnRow hi, rfl, rfl, rfl⟩
  simp only [Nat.add_zero] at hst
  have hmin : Nat.min s.size m = s.size := Nat.min_eq_left hm
  simp only [execOp, ho, resolve, invoke, builtin, Sem.run_bind, Sem.run_pure, Result.andThen_ok]
  have ex := ha.ev hx
  have ey := ha.ev hy
  simp [Builtin.copy_, ex, ey, run_underlying w (slOf_under ht), Builtin.lenOf, hmin, run_sizeOf w hs, Builtin.firstCells, goInt]
  have e6 : List.take s.size (List.map (fun b => Value.int .u8 b.toNat) s.data.toList) = bytesV s := by
    rw [List.take_of_length_le (by simp)]; rfl
  rw [e6, hst]; rfl
end
end Go.Par

/- Engine: strings in order; slices with their room; a row made by append. It speaks of no program. -/
namespace Go.Par
open Go PH
theorem bytesLess_lt : ∀ (x y : List UInt8), Op.bytesLess x y = decide (x < y)
  | [], [] => by simp [Op.bytesLess]
  | _ :: _, [] => by simp [Op.bytesLess]
  | [], _ :: _ => by simp [Op.bytesLess]
  | a :: x, b :: y => by
    rw [Op.bytesLess, bytesLess_lt x y]
    simp only [List.cons_lt_cons_iff]
    by_cases h1 : a < b <;> by_cases h2 : a = b <;> by_cases h3 : x < y <;> simp [h1, h2, h3]
/-- One text ahead of another. -/
def ltK (a b : ByteArray) : Bool := Op.bytesLess a.toList b.toList
theorem ltK_iff {a b : ByteArray} : ltK a b = true ↔ a.toList < b.toList := by unfold ltK; rw [bytesLess_lt]; simp
theorem ltK_irrefl (a : ByteArray) : ltK a a = false := by
  cases h : ltK a a with
  | false => rfl
  | true => exact absurd (ltK_iff.1 h) (List.lt_irrefl _)
theorem ltK_trans {a b c : ByteArray} (h : ltK a b = true) (k : ltK b c = true) : ltK a c = true := ltK_iff.2 (List.lt_trans (ltK_iff.1 h) (ltK_iff.1 k))
theorem toListB_inj {a b : ByteArray} (h : a.toList = b.toList) : a = b := by
  rw [ByteArray.toList_eq, ByteArray.toList_eq] at h
  exact ByteArray.ext (Array.toList_inj.1 h)
theorem ltK_eq {a b : ByteArray} (h : ltK a b = false) (k : ltK b a = false) : a = b := by
  refine toListB_inj (List.le_antisymm ?_ ?_)
  · intro hh; rw [ltK_iff.2 hh] at k; cases k
  · intro hh; rw [ltK_iff.2 hh] at h; cases h
theorem ltK_asymm {a b : ByteArray} (h : ltK a b = true) : ltK b a = false := by
  cases k : ltK b a with
  | false => rfl
  | true => have := ltK_trans h k; rw [ltK_irrefl] at this; cases this
theorem beqB_iff {a b : ByteArray} : (a == b) = decide (a = b) := by
  by_cases h : a = b
  · subst h; rw [beqB]; simp
  · rw [decide_eq_false h, beq_toListBytes]
    simp; intro hh; exact h (toListB_inj hh)
section
variable {P : Program} {n : Nat} {ops : Array Oper} {l : List Oper} {o : Oper} {E : Env} {D : List Deferred} {R : List SL} {h : PH} {K : S → Prop} {Q : Exit → S → Prop}
theorem X_ltS {t u : TypeId} {x y : Operand} {a b : ByteArray} {c : Bool} (ho : o.op = .binOp .lss t x y u) (hx : ev E x = some (.string a)) (hy : ev E y = some (.string b)) (hc : ltK a b = c) : Exec P n o ⟨E, D, R, h⟩ (Is (.bool c) R h) :=
  Exec_is fun ac w ha => by
    subst hc
    simp [execOp, ho, ha.ev hx, ha.ev hy, eqGuard, binOp, Op.stringOp, ltK]
theorem X_gtS {t u : TypeId} {x y : Operand} {a b : ByteArray} {c : Bool} (ho : o.op = .binOp .gtr t x y u) (hx : ev E x = some (.string a)) (hy : ev E y = some (.string b)) (hc : ltK b a = c) : Exec P n o ⟨E, D, R, h⟩ (Is (.bool c) R h) :=
  Exec_is fun ac w ha => by
    subst hc
    have e : (!(Op.bytesLess a.toList b.toList || a.toList == b.toList)) = ltK b a := by
      cases h1 : ltK b a with
      | true =>
        have h2 := ltK_asymm h1
        have h3 : (a.toList == b.toList) = false := by
          cases h4 : (a.toList == b.toList) with
          | false => rfl
          | true =>
            have e : a = b := toListB_inj (by simpa using h4)
            subst e; rw [ltK_irrefl] at h1; cases h1
        unfold ltK at h2
        rw [h2, h3]; rfl
      | false =>
        cases h2 : ltK a b with
        | true => unfold ltK at h2; rw [h2]; rfl
        | false =>
          have e := ltK_eq h2 h1
          subst e; simp
    simp [execOp, ho, ha.ev hx, ha.ev hy, eqGuard, binOp, Op.stringOp, ← e]
theorem X_cap {x : Operand} {t : TypeId} {e : TypeId} {a : Option Addr} {m cap : Nat} (ho : o.op = .call ⟨.builtin .cap, #[x], #[t]⟩) (ht : slOf P t = some e) (hx : ev E x = some (.slice a m cap)) : Exec P n o ⟨E, D, R, h⟩ (Is (.int .i64 cap) R h) :=
  Exec_is fun ac w ha => by simp [execOp, ho, resolve, invoke, builtin, Builtin.cap_, ha.ev hx, run_underlying w (slOf_under ht), goInt]
/-- The beginning of a slice, with no room behind it. -/
theorem X_slice3 {x y z : Operand} {t e : TypeId} {a : Option Addr} {len cap sz j : Nat} {k k2 : IntKind} (ho : o.op = .slice t x none (some y) (some z)) (ht : slOf P t = some e) (hs : szOf P e = some sz) (hx : ev E x = some (.slice a len cap)) (hy : ev E y = some (.int k (j : Int))) (hz : ev E z = some (.int k2 (j : Int)))
    (h1 : j ≤ cap) : Exec P n o ⟨E, D, R, h⟩ (Is (.slice (if j = 0 then a else a.map (·.add (0 * sz))) j j) R h) :=
  Exec_is fun ac w ha => by
    simp [execOp, ho, ha.ev hx, ha.ev hy, ha.ev hz, Instr.sliceAt, Instr.slice, Instr.sliceBounds, Instr.sliceBound, asIntOf, run_underlying w (slOf_under ht), run_sizeOf w hs, h1]
/-- A row of so many zeros, made by append. -/
theorem WL_appendMake {x y : Operand} {t ty e : TypeId} {sz by_ m : Nat} {d : Tmp} (ho : o.op = .call ⟨.builtin .append, #[x, y], #[t, ty]⟩) (hx : ev E x = some (.slice none 0 0)) (hy : ev E y = some (.int .i64 (m : Int))) (ht : ElemT P t e sz by_) (hty : P.underlying ty = some (.int .i64))
    (hm : 0 < m) (hsz : 0 < sz) (hb : m * by_ ≤ 140737488355328) (hm2 : m ≤ 9223372036854775807) (hd : o.dst = some d) (hg : gd ops E o = some true) (hn : Nat.blt d n = true)
    (k : ∀ b cap c, m ≤ cap → c.length = cap * sz → WL P n ops l ⟨(d, .slice (some ⟨b, 0, none⟩) m cap) :: E, D, blk b c e :: R, h⟩ K Q) : WL P n ops (o :: l) ⟨E, D, R, h⟩ K Q := by
  refine WL_any (A := fun v' R' h' => ∃ b cap c, m ≤ cap ∧ c.length = cap * sz ∧ v' = .slice (some ⟨b, 0, none⟩) m cap ∧ R' = blk b c e :: R ∧ h' = h) ?_ hd hg hn fun v' _ _ _ ⟨b, cap, c, h1, h2, e0, e1, e2⟩ => by subst e0; subst e1; subst e2; exact k b cap c h1 h2
  refine Exec_of_run fun κ h0 f a w hf ha hw => ?_
  obtain ⟨hsl, inf, zv, hinf, hz, hsz', hby, hzs⟩ := ht
  have hfit := growslice_fits (need := m) (old := 0) (bytes := by_) (by omega) hb
  let q : Question := .appendCap m 0 e
  let cap' := q.cut (w.tape w.drawn q)
  have hcap' : m ≤ cap' := by simp only [cap', q, Question.cut]; omega
  have ex := ha.ev hx
  have ey := ha.ev hy
  subst hsz'; subst hby
  have hwrap : IntKind.i64.wrap (m : Int) = (m : Int) := wrap_i64_in (by omega) (by omega)
  have h48 : ¬ (281474976710656 < Builtin.nextslicecap m 0 * inf.bytes) := by omega
  have h49 : ¬ ((281474976710656 : Int) < (m : Int) * (inf.bytes : Int)) := by
    have : ((m * inf.bytes : Nat) : Int) = (m : Int) * (inf.bytes : Int) := by simp
    omega
  have h63 : ¬ (9223372036854775807 < (m : Int)) := by omega
  have hm0 : ¬ m = 0 := by omega
  have hneg : ¬ ((m : Int) < 0) := by omega
  have hs0 : ¬ inf.size = 0 := by omega
  obtain ⟨cc, hcc⟩ : ∃ cc : List Value, cc = (Builtin.zeroCells zv.cells m).toList ++ (Builtin.zeroCells zv.cells (cap' - m)).toList := ⟨_, rfl⟩
  have hlen : cc.length = cap' * inf.size := by
    rw [hcc]
    simp only [List.length_append, Array.length_toList, zeroCells_size, hzs, ← Nat.add_mul]
    congr 1; omega
  have hrun : (execOp a.eval o).run P w = .ok (.value (.slice (some ⟨w.heap.size, 0, none⟩) m cap')) { w with drawn := w.drawn + 1, heap := w.heap.push (.cells cc.toArray e (0, 0)) } := by
    rw [hcc]
    simp [execOp, ho, resolve, invoke, builtin, ex, ey, Builtin.append_, run_underlying w (slOf_under hsl), run_underlying w hty, sizeOf, typeInfo, zeroValue, hinf, hz, hwrap, h48, h49, h63, hm0, Question.forced, newRow, Builtin.firstCells, asInt, asIntOf, hneg]
    rw [if_neg (Nat.ne_of_gt (Nat.mul_pos hm hsz))]
    refine congrArg _ ?_
    unfold World.alloc World.drew
    have eAB : ∀ A B : Array Value, (A.toList ++ B.toList).toArray = A ++ B := fun A B => by apply Array.ext'; simp
    rw [eAB]
  exact ⟨_, _, h, _, .inl hrun, le.refl _, (hw.drawn _).new (.cells cc.toArray e (0, 0)), w.heap.size, cap', cc, hcap', hlen, rfl, rfl, rfl⟩
end
/-- A row's own beginning, of no elements. -/
theorem Upd_row0 {α : Type} {enc : α → List Value} {R : List SL} {h : PH} {b cap sz : Nat} {c : List Value} {e : TypeId} (i : Nat) (hi : R[i]? = some (blk b c e)) (hc : c.length = cap * sz) : Upd R h (R.set i (rowL enc (.slice (some ⟨b, 0, none⟩) 0 cap) e sz [])) h :=
  Upd.blkrow (cap := cap) (m := 0) (sz := sz) (xs := []) i hi (Nat.zero_le _) hc (by simp)
theorem Sl.room {α : Type} {enc : α → List Value} {sz : Nat} {h : PH} {a : Option Addr} {cap k : Nat} {L : List α} (hv : Sl enc sz h (.slice a L.length cap) L) (hk : k ≤ L.length) : Sl enc sz h (.slice (if k = 0 then a else a.map (·.add (0 * sz))) k k) (L.take k) := by
  obtain ⟨q1, a', cap', e, hc, hn, hx⟩ := hv
  cases e
  have hlen : (L.take k).length = k := by simp; omega
  refine ⟨fun x hx' => q1 x (List.mem_of_mem_take hx'), _, k, by rw [hlen], by rw [hlen]; exact Nat.le_refl _, ?_, ?_⟩
  · intro ha
    have : a = none := by
      split at ha
      · exact ha
      · simpa using ha
    obtain ⟨hL, _⟩ := hn this
    subst hL
    exact ⟨by simp, by simpa using hk⟩
  · rcases hx with hx | ⟨b, off, c, t, fr, ea, hb, hj⟩
    · left; subst hx; simp
    · by_cases hz : k = 0
      · left; subst hz; simp
      · right
        refine ⟨b, off, c, t, fr, by rw [if_neg hz, ea]; simp [add_spot], hb, ?_⟩
        intro i hi' j hjs
        rw [hlen] at hi'
        rw [hj i (by omega) j hjs]
        simp
end Go.Par

/- Engine: strings built up: bytes appended to rows of one's own, rows made by the library, rows read as strings. It speaks of no program. -/
namespace Go.Par
open Go PH
section
variable {P : Program} {n : Nat} {ops : Array Oper} {l : List Oper} {o : Oper} {E : Env} {D : List Deferred} {R : List SL} {h : PH} {K : S → Prop} {Q : Exit → S → Prop}
theorem X_cpl {t : TypeId} {x : Operand} {k : IntKind} {a : Int} (ho : o.op = .unOp .xor t x) (hx : ev E x = some (.int k a)) : Exec P n o ⟨E, D, R, h⟩ (Is (.int k (bits .xor k (if k.signed then -1 else k.max) a)) R h) :=
  Exec_is fun ac w ha => by simp [execOp, ho, ha.ev hx, Op.unary, intBits_xor]
theorem X_neB_c {t u : TypeId} {x y : Operand} {a b c : Bool} (ho : o.op = .binOp .neq t x y u) (ht : P.underlying t = some .bool) (hx : ev E x = some (.bool a)) (hy : ev E y = some (.bool b)) (hc : (a == b) = c) : Exec P n o ⟨E, D, R, h⟩ (Is (.bool (!c)) R h) := by
  subst hc; exact X_neB ho ht hx hy
/-- What the library gives back as it was. -/
theorem X_noEscape {fo : Operand} {xs : Array Operand} {tys : Array TypeId} {f : FuncId} {fn : Func} {v : Value} (ho : o.op = .call ⟨.value fo, xs, tys⟩) (hfo : ev E fo = some (.func (.func f) #[] #[]))
    (hxs : evs E xs.toList = some [v]) (hfn : P.funcs[f]? = some fn) (hnm : (fn.name == "runtime.NumGoroutine") = false) (hb : fn.body.isNone = true) (hn : Extern.findNext fn = none)
    (he : Extern.find fn = some Extern.AbiNoEscape.same) : Exec P n o ⟨E, D, R, h⟩ (Is v R h) :=
  Exec_is fun a w ha => by
    have e1 : xs.map a.eval = #[v] := map_arr (ha.evs hxs)
    simp only [execOp, ho, resolve, Deferred.ofValue, ha.ev hfo, e1, Sem.run_bind, Sem.run_pure, Result.andThen_ok, invoke, Array.append_empty, Array.empty_append]
    rw [run_callFunc_extern hfn hnm hb hn he]; rfl
theorem run_program (w : World) : (program).run P w = .ok P w := rfl
theorem run_shape (r : Nat) (w : World) : (shape r).run P w = .ok (w.shape? r) w := rfl
theorem shape_of {w : World} {b : Nat} {c : List Value} {t : TypeId} (hb : w.heap[b]? = some (.cells c.toArray t (0, 0))) : w.shape? b = some (t, c.length) := by simp [World.shape?, hb]
theorem run_viewAt {w : World} {b : Nat} {c : List Value} {t : TypeId} (hb : w.heap[b]? = some (.cells c.toArray t (0, 0))) : (viewAt b).run P w = .ok none w := by
  simp only [viewAt, Sem.run_bind, run_shape, Result.andThen_ok, shape_of hb, Option.isSome_some, if_true, Sem.run_pure]
theorem run_seenAt {w : World} {b off : Nat} {c : List Value} {t : TypeId} (hb : w.heap[b]? = some (.cells c.toArray t (0, 0))) : (Conv.seenAt ⟨b, off, none⟩).run P w = .ok ⟨b, off, none⟩ w := by
  simp only [Conv.seenAt, Sem.run_bind, run_viewAt hb, Result.andThen_ok, Sem.run_pure]
theorem X_toUnsafe {s d e t0 : TypeId} {x : Operand} {i b sz : Nat} {c : List Value} (ho : o.op = .convert s d x) (hs : P.underlying s = some (.pointer e)) (hd : P.underlying d = some .unsafePointer) (hz : szOf P e = some sz) (h0 : Nat.beq sz 0 = false)
    (hx : ev E x = some (.pointer (some ⟨b, 0, none⟩))) (hi : R[i]? = some (blk b c t0)) (hc : Nat.beq c.length 0 = false) : Exec P n o ⟨E, D, R, h⟩ (Is (.pointer (some ⟨b, 0, none⟩)) R h) :=
  Exec_of_run fun κ h0' f ac w hf hac hw => by
    have hb := hw.obj_at hi
    have hsz : sz ≠ 0 := by intro e; subst e; simp at h0
    have hcl : c.length ≠ 0 := by intro e; rw [e] at hc; simp at hc
    refine ⟨_, R, h, w, .inl ?_, le.refl _, hw, rfl, rfl, rfl⟩
    simp [execOp, ho, hac.ev hx, convert, run_underlying w hs, run_underlying w hd, Conv.unsafePointer, run_seenAt hb, cellsIn, shape_of hb, run_sizeOf w hz, hsz, hcl]
theorem X_fromUnsafe {s d e t0 : TypeId} {x : Operand} {i b sz : Nat} {c : List Value} (ho : o.op = .convert s d x) (hs : P.underlying s = some .unsafePointer) (hd : P.underlying d = some (.pointer e)) (hz : szOf P e = some sz)
    (hx : ev E x = some (.pointer (some ⟨b, 0, none⟩))) (hi : R[i]? = some (blk b c t0)) (hl : liesAt P P.depth t0 (c.length / P.cellsOf t0) 0 e 1 = true) : Exec P n o ⟨E, D, R, h⟩ (Is (.pointer (some ⟨b, 0, none⟩)) R h) :=
  Exec_of_run fun κ h0' f ac w hf hac hw => by
    have hb := hw.obj_at hi
    have hv : (variablesAt ⟨b, 0, none⟩ e 1).run P w = .ok true w := by
      simp only [variablesAt, Sem.run_bind, run_program, Result.andThen_ok, run_shape, shape_of hb, hl, Sem.run_pure]
    refine ⟨_, R, h, w, .inl ?_, le.refl _, hw, rfl, rfl, rfl⟩
    simp [execOp, ho, hac.ev hx, convert, run_underlying w hs, run_underlying w hd, Conv.unsafePointer, run_seenAt hb, run_sizeOf w hz, hv]
theorem X_nePPs {t u e : TypeId} {x y : Operand} {b sz : Nat} (ho : o.op = .binOp .neq t x y u) (ht : P.underlying t = some (.pointer e)) (hz : szOf P e = some sz) (h0 : Nat.beq sz 0 = false)
    (hx : ev E x = some (.pointer (some ⟨b, 0, none⟩))) (hy : ev E y = some (.pointer (some ⟨b, 0, none⟩))) : Exec P n o ⟨E, D, R, h⟩ (Is (.bool false) R h) :=
  Exec_is fun ac w hac => by
    have hsz : sz ≠ 0 := by intro e; subst e; simp at h0
    have hr : (Op.equal t (.pointer (some ⟨b, 0, none⟩)) (.pointer (some ⟨b, 0, none⟩))).run P w = .ok true w := by
      show (Op.equalIn (9999 + 1) t (.pointer (some ⟨b, 0, none⟩)) (.pointer (some ⟨b, 0, none⟩))).run P w = _
      rw [Op.equalIn]
      simp [run_underlying w ht, run_sizeOf w hz, run_sameAddr_same]
    simp [execOp, ho, hac.ev hx, hac.ev hy, eqGuard, binOp, hr]
theorem run_unsafeData {ts : Array TypeId} {ty : TypeId} {a : Addr} {m cap : Nat} (w : World) (hc : cap ≠ 0) : (Builtin.unsafeSliceData_ ts ty #[.slice (some a) m cap]).run P w = .ok (.pointer (some a)) w := by
  show Sem.run P (ite (cap ≠ 0) _ _) w = _
  rw [if_pos hc]; rfl
theorem X_unsafeData {x : Operand} {t : TypeId} {a : Addr} {m cap : Nat} (ho : o.op = .call ⟨.builtin .unsafeSliceData, #[x], #[t]⟩) (hx : ev E x = some (.slice (some a) m cap)) (hc : 0 < cap) : Exec P n o ⟨E, D, R, h⟩ (Is (.pointer (some a)) R h) :=
  Exec_is fun ac w ha => by
    simp [execOp, ho, resolve, invoke, builtin, ha.ev hx, run_unsafeData w (show cap ≠ 0 by omega)]
theorem X_unsafeDataN {x : Operand} {t : TypeId} {m cap : Nat} (ho : o.op = .call ⟨.builtin .unsafeSliceData, #[x], #[t]⟩) (hx : ev E x = some (.slice none m cap)) : Exec P n o ⟨E, D, R, h⟩ (Is (.pointer none) R h) :=
  Exec_is fun ac w ha => by
    have hr : ∀ ty, (Builtin.unsafeSliceData_ #[t] ty #[.slice none m cap]).run P w = .ok (.pointer none) w := fun _ => rfl
    simp [execOp, ho, resolve, invoke, builtin, ha.ev hx, hr]
theorem X_unsafeStringN {x y : Operand} {t u : TypeId} (ho : o.op = .call ⟨.builtin .unsafeString, #[x, y], #[t, u]⟩) (hx : ev E x = some (.pointer none)) (hy : ev E y = some (.int .i64 0)) : Exec P n o ⟨E, D, R, h⟩ (Is (.string ⟨#[]⟩) R h) :=
  Exec_is fun ac w ha => by
    have hr : ∀ ty, (Builtin.unsafeString_ #[t, u] ty #[.pointer none, .int .i64 0]).run P w = .ok (.string ⟨#[]⟩) w := fun _ => rfl
    simp [execOp, ho, resolve, invoke, builtin, ha.ev hx, ha.ev hy, hr]
def encB8 (b : UInt8) : List Value := [.int .u8 b.toNat]
theorem bytesV_eq (s : ByteArray) : bytesV s = s.data.toList.flatMap encB8 := by
  unfold bytesV
  induction s.data.toList with
  | nil => rfl
  | cons b l ih => simp only [List.map_cons, List.flatMap_cons, ih]; rfl
theorem run_loadBytes {w : World} {b : Nat} {c : List Value} {t : TypeId} (hb : w.heap[b]? = some (.cells c.toArray t (0, 0))) : ∀ (L : List UInt8) (off : Nat) (acc : ByteArray), (∀ j (hj : j < L.length), c[off + j]? = some (.int .u8 (L[j].toNat))) →
    (loadBytes ⟨b, off, none⟩ acc L.length).run P w = .ok ⟨acc.data ++ L.toArray⟩ w
  | [], off, acc, _ => by simp only [loadBytes, List.length_nil, Sem.run_pure]; cases acc; simp
  | x :: L, off, acc, h => by
    have h0 := h 0 (by simp)
    simp only [Nat.add_zero, List.getElem_cons_zero] at h0
    have hld : (load ⟨b, off, none⟩).run P w = .ok (.int .u8 x.toNat) w := by
      have hc : w.cell? ⟨b, off, none⟩ = some (.int .u8 x.toNat) := by simp [World.cell?, hb, h0]
      simp [hc]
    have ih := run_loadBytes hb L (off + 1) (acc.push x) (fun j hj => by have := h (j + 1) (by simpa using hj); rw [show off + 1 + j = off + (j + 1) from by omega]; simpa using this)
    simp only [List.length_cons, loadBytes, Sem.run_bind, hld, Result.andThen_ok]
    simp only [Int.toNat_natCast]
    have e1 : x.toNat.toUInt8 = x := by simp
    rw [e1]
    have e2 : (⟨b, off, none⟩ : Addr).add 1 = ⟨b, off + 1, none⟩ := rfl
    rw [e2, ih]
    cases acc with
    | mk d => simp [ByteArray.push]
/-- A row's bytes as a string; the row is given up. -/
theorem X_unsafeString {x y : Operand} {t u e0 : TypeId} {i b m d1 : Nat} {c : List Value} {L : List UInt8} (ho : o.op = .call ⟨.builtin .unsafeString, #[x, y], #[t, u]⟩) (ht : P.underlying t = some (.pointer e0)) (hx : ev E x = some (.pointer (some ⟨b, 0, none⟩))) (hy : ev E y = some (.int .i64 (m : Int)))
    (hi : R[i]? = some (blk b c e0)) (hm : m = L.length) (h0 : 0 < m) (hc : c.take m = L.flatMap encB8) (hcm : m ≤ c.length) (hmx : m ≤ 9223372036854775807) (hd : P.depth = d1 + 1) (hs : P.cellsOf e0 = 1) (hl : sameLayout P P.depth e0 e0 = true) :
    Exec P n o ⟨E, D, R, h⟩ (Ret fun v R' h' => v = .string ⟨L.toArray⟩ ∧ R' = R.eraseIdx i ∧ h' = h) := by
  refine Exec_of_run fun κ h0 f a w _ ha hw => ?_
  have hb := hw.obj_at hi
  subst hm
  have hget : ∀ j (hj : j < L.length), c[0 + j]? = some (.int .u8 (L[j].toNat)) := fun j hj => by
    have e1 : (c.take L.length)[j]? = (L.flatMap encB8)[j]? := by rw [hc]
    rw [List.getElem?_take, if_pos hj] at e1
    have e2 := flat_get' (enc := encB8) (sz := 1) L (fun _ _ => rfl) j hj 0 (by decide)
    rw [Nat.mul_one, Nat.add_zero] at e2
    rw [Nat.zero_add, e1, e2]; rfl
  have hlb := run_loadBytes (P := P) hb L 0 .empty hget
  have hva : (variablesAt ⟨b, 0, none⟩ e0 L.length).run P w = .ok true w := by
    have hli : liesAt P P.depth e0 (c.length / P.cellsOf e0) 0 e0 L.length = true := by
      have hr : rowAt P (sameLayout P P.depth · e0) P.depth e0 (c.length / P.cellsOf e0) 0 L.length = true := by
        rw [hd, rowAt, ← hd]
        simp [hs, hl, hcm]
      rw [hd, liesAt]
      rw [hr]; rfl
    simp only [variablesAt, Sem.run_bind, run_program, Result.andThen_ok, run_shape, shape_of hb, hli, Sem.run_pure]
  have hfz : (freeze ⟨b, 0, none⟩ L.length).run P w = .ok () (w.freeze ⟨b, 0, none⟩ L.length) := rfl
  have hfw : ∃ o', (w.freeze ⟨b, 0, none⟩ L.length).heap[b]? = some o' ∧ (w.freeze ⟨b, 0, none⟩ L.length).heap.size = w.heap.size ∧ (w.freeze ⟨b, 0, none⟩ L.length).os = w.os ∧ (w.freeze ⟨b, 0, none⟩ L.length).tape = w.tape ∧ (w.freeze ⟨b, 0, none⟩ L.length).output = w.output ∧ ∀ b' : Nat, b' ≠ b → (w.freeze ⟨b, 0, none⟩ L.length).heap[b']? = w.heap[b']? := by
    have hn0 : L.length ≠ 0 := by omega
    unfold World.freeze
    rw [if_neg hn0]
    refine ⟨.cells c.toArray e0 (0, L.length), ?_, ?_, rfl, rfl, rfl, ?_⟩
    · simp [Array.getElem?_modify, hb]
    · simp
    · intro b' hne
      simp [Array.getElem?_modify, Ne.symm hne]
  obtain ⟨o', f1, f2, f3, f4, f5, f6⟩ := hfw
  have hst := hw.turn (i := i) (o' := o') hi f2 f3 f4 f5 f1 f6
  have hdrop := hst.drop (i := i)
  refine ⟨.string ⟨L.toArray⟩, _, h, w.freeze ⟨b, 0, none⟩ L.length, .inl ?_, le.refl _, hdrop, rfl, ?_, rfl⟩
  · have hn0 : ¬ ((L.length : Int) < 0) := by omega
    have hmx' : ¬ ((L.length : Int) > IntKind.i64.max) := by
      rw [show IntKind.i64.max = 9223372036854775807 from rfl]; omega
    have hne0 : ¬ ((L.length : Int) = 0) := by omega
    have hel : (elemOf t).run P w = .ok e0 w := by simp [elemOf, run_underlying w ht]
    have hr : ∀ ty, (Builtin.unsafeString_ #[t, u] ty #[.pointer (some ⟨b, 0, none⟩), .int .i64 (L.length : Int)]).run P w = .ok (.string ⟨L.toArray⟩) (w.freeze ⟨b, 0, none⟩ L.length) := fun ty => by
      change Sem.run P ((asInt (.int .i64 (L.length : Int))) >>= fun n => _) w = _
      have h1 : (asInt (.int .i64 (L.length : Int))).run P w = .ok (L.length : Int) w := rfl
      rw [Sem.run_bind, h1, Result.andThen_ok]
      change Sem.run P (ite ((L.length : Int) < 0) _ _) w = _
      rw [if_neg hn0]
      change Sem.run P (ite ((L.length : Int) > IntKind.i64.max) _ _) w = _
      rw [if_neg hmx']
      change Sem.run P (ite ((L.length : Int) = 0) _ _) w = _
      rw [if_neg hne0]
      change Sem.run P (elemOf t >>= fun e => _) w = _
      rw [Sem.run_bind, hel, Result.andThen_ok]
      change Sem.run P (variablesAt ⟨b, 0, none⟩ e0 (L.length : Int).toNat >>= fun e => _) w = _
      rw [Int.toNat_natCast, Sem.run_bind, hva, Result.andThen_ok]
      change Sem.run P (loadBytes ⟨b, 0, none⟩ .empty (L.length : Int).toNat >>= fun e => _) w = _
      rw [Int.toNat_natCast, Sem.run_bind, hlb, Result.andThen_ok]
      change Sem.run P (freeze ⟨b, 0, none⟩ (L.length : Int).toNat >>= fun e => _) w = _
      rw [Int.toNat_natCast, Sem.run_bind, hfz, Result.andThen_ok]
      simp
    simp [execOp, ho, resolve, invoke, builtin, ha.ev hx, ha.ev hy, hr]
  · simp only [List.eraseIdx_set_eq]
end
end Go.Par

/- Engine: a string's bytes appended to a row of one's own; rows that the library makes. It speaks of no program. -/
namespace Go.Par
open Go PH
section
variable {P : Program}
theorem run_appendS_grow {w : World} {t tx e : TypeId} {m cap : Nat} {base : Option Addr} {s : ByteArray} {xs : List Value} (ht : ElemT P t e 1 1) (htx : P.underlying tx = some .string)
    (hold' : ∀ (w' : World), w'.heap = w.heap → (Builtin.firstCells 1 m (.slice base m cap)).run P w' = .ok xs.toArray w')
    (hg : ¬ m + s.size ≤ cap) (hb : m + s.size ≤ 140737488355328) (ty : TypeId) :
    ∃ cap' rest, m + s.size ≤ cap' ∧ rest.length = cap' - (m + s.size) ∧ (Builtin.append_ #[t, tx] ty #[.slice base m cap, .string s]).run P w = .ok (.slice (some ⟨w.heap.size, 0, none⟩) (m + s.size) cap') { w with drawn := w.drawn + 1, heap := w.heap.push (.cells (xs ++ bytesV s ++ rest).toArray e (0, 0)) } := by
  obtain ⟨hsl, inf, zv, hinf, hz, hsz, hby, hzs⟩ := ht
  have hfit := growslice_fits (need := m + s.size) (old := cap) (bytes := 1) (by omega) (by omega)
  let q : Question := .appendCap (m + s.size) cap e
  let cap' := q.cut (w.tape w.drawn q)
  have hcap' : m + s.size ≤ cap' := by simp only [cap', q, Question.cut]; omega
  refine ⟨cap', (Builtin.zeroCells zv.cells (cap' - (m + s.size))).toList, hcap', by simp [zeroCells_size, hzs], ?_⟩
  have h1 := hold' w.drew rfl
  have h63' : ¬ (9223372036854775807 < ((m : Int) + (s.size : Int))) := by omega
  have h48' : ¬ (281474976710656 < Builtin.nextslicecap (m + s.size) cap) := by omega
  have e6 : s.data.map (fun b => Value.int .u8 b.toNat) = (bytesV s).toArray := by
    apply Array.ext'; unfold bytesV; simp
  simp [Builtin.append_, run_underlying w (slOf_under hsl), run_underlying w htx, sizeOf, typeInfo, zeroValue, hinf, hz, Builtin.lenOf, hg, h63', h48', hsz, hby, Question.forced, h1, newRow]
  simp [Builtin.firstCells]
  refine ⟨rfl, ?_⟩
  rw [e6]
  unfold World.alloc World.drew
  congr 2
  have eAB : ∀ A B : Array Value, (A.toList ++ B.toList).toArray = A ++ B := fun A B => by apply Array.ext'; simp
  simp [cap', q]
theorem run_appendS_room {w : World} {t tx e : TypeId} {m cap b : Nat} {c : List Value} {s : ByteArray} (ht : ElemT P t e 1 1) (htx : P.underlying tx = some .string)
    (hb : w.heap[b]? = some (.cells c.toArray e (0, 0))) (hc : c.length = cap) (hg : m + s.size ≤ cap) (ty : TypeId) :
    (Builtin.append_ #[t, tx] ty #[.slice (some ⟨b, 0, none⟩) m cap, .string s]).run P w = .ok (.slice (some ⟨b, 0, none⟩) (m + s.size) cap) (setRow w b (wr c m (bytesV s)) e) := by
  obtain ⟨hsl, inf, zv, hinf, hz, hsz, hby, hzs⟩ := ht
  have hst := run_storeCells_at (P := P) (b := b) (off := m) (i := 0) (vs := bytesV s) hb (by rw [bytesV_len]; omega) (bytesV_flat s)
  simp only [Nat.add_zero] at hst
  have e6 : s.data.map (fun b => Value.int .u8 b.toNat) = (bytesV s).toArray := by
    apply Array.ext'; unfold bytesV; simp
  simp [Builtin.append_, run_underlying w (slOf_under hsl), run_underlying w htx, sizeOf, typeInfo, hinf, hsz, Builtin.lenOf, hg, Builtin.firstCells, add_spot]
  have e7 : List.map (fun b => Value.int .u8 b.toNat) s.data.toList = bytesV s := rfl
  rw [List.take_of_length_le (by simp), e7, hst]
  rfl
/-- append of a string, of a row of one's own. -/
theorem run_appendS {κ : World} {h0 f : PH} {R : List SL} {h : PH} {w : World} {i : Nat} {t tx e : TypeId} {m : Nat} {v : Value} {s : ByteArray} {xs : List Value} (st : St κ h0 f R h w)
    (ht : ElemT P t e 1 1) (htx : P.underlying tx = some .string) (hi : R[i]? = some (row v e 1 m xs)) (hb : m + s.size ≤ 140737488355328) (ty : TypeId) :
    ∃ v' w', (Builtin.append_ #[t, tx] ty #[v, .string s]).run P w = .ok v' w' ∧ (s.size = 0 → v' = v) ∧ St κ h0 f (R.set i (row v' e 1 (m + s.size) (xs ++ bytesV s))) h w' := by
  have hiL : i < R.length := by
    rcases Nat.lt_or_ge i R.length with h | h
    · exact h
    · simp [List.getElem?_eq_none h] at hi
  have hst := st
  have hyl := bytesV_len s
  obtain ⟨hw4, g, kk, eh, hstars, hgf, hkf, hgk, hg, hk, hwf⟩ := st
  obtain ⟨x1, y1, rfl, hd, ⟨hxl, hrow⟩, hset, her⟩ := stars_get hi hstars
  have fresh : ∀ (base : Option Addr) (cap : Nat), v = .slice base m cap → ¬ m + s.size ≤ cap → (s.size = 0 → False) → (∀ (w' : World), w'.heap = w.heap → (Builtin.firstCells 1 m (.slice base m cap)).run P w' = .ok xs.toArray w') →
      ∃ v' w', (Builtin.append_ #[t, tx] ty #[v, .string s]).run P w = .ok v' w' ∧ (s.size = 0 → v' = v) ∧ St κ h0 f (R.set i (row v' e 1 (m + s.size) (xs ++ bytesV s))) h w' := by
    rintro base cap rfl hgt hne hold
    obtain ⟨cap', rest, hc1, hc2, hrun⟩ := run_appendS_grow (P := P) (w := w) (s := s) (xs := xs) ht htx hold hgt hb ty
    refine ⟨_, _, hrun, fun h => (hne h).elim, ?_⟩
    have h1 := (hst.drawn (w.drawn + 1)).new (.cells (xs ++ bytesV s ++ rest).toArray e (0, 0))
    have h2 := h1.drop (i := i + 1)
    simp only [List.eraseIdx_cons_succ] at h2
    refine St.perm (set_perm hiL).symm ?_
    refine (h2.setObj (i := 0) rfl (r' := row (.slice (some ⟨w.heap.size, 0, none⟩) (m + s.size) cap') e 1 (m + s.size) (xs ++ bytesV s)) ?_)
    intro g hg
    refine ⟨by rw [List.length_append, hxl, hyl]; omega, .inr ⟨w.heap.size, cap', _, rfl, hc1, ?_, ?_, hg⟩⟩
    · simp only [List.length_append, hxl, hyl, hc2]; omega
    · rw [List.take_append_of_le_length (by rw [List.length_append, hxl, hyl]; omega)]
      rw [List.take_of_length_le (by rw [List.length_append, hxl, hyl]; omega)]
  rcases hrow with ⟨rfl, rfl, hx1⟩ | ⟨b, cap, c, rfl, hmc, hcl, htk, hblk⟩
  · simp at hxl; subst hxl
    by_cases hk0 : s.size = 0
    · have hs0 : bytesV s = [] := List.eq_nil_of_length_eq_zero (by rw [hyl]; exact hk0)
      obtain ⟨hsl, inf, zv, hinf, hz, hsz, hby, hzs⟩ := ht
      refine ⟨.slice none 0 0, w, ?_, fun _ => rfl, ?_⟩
      · simp [Builtin.append_, run_underlying w (slOf_under hsl), run_underlying w htx, sizeOf, typeInfo, hinf, hsz, Builtin.lenOf, hk0, Builtin.firstCells]
      · rw [hs0, hk0]
        exact hst.setObj hi (fun g hg => by simpa using hg)
    · exact fresh none 0 rfl (by omega) hk0 (fun w' _ => by simp [Builtin.firstCells])
  · have hblk : x1 = one b _ := hblk
    subst hblk
    have hbw : w.heap[b]? = some (.cells c.toArray e (0, 0)) := hg b _ (by simp [un, one])
    have hold : ∀ (w' : World), w'.heap = w.heap → (Builtin.firstCells 1 m (.slice (some ⟨b, 0, none⟩) m cap)).run P w' = .ok xs.toArray w' := fun w' e1 => by
      have hrd : rd c 0 (m * 1) = some xs := rd_of hxl fun j hj => by rw [← htk, List.getElem?_take, if_pos hj, Nat.zero_add]
      have hb' : w'.heap[b]? = some (.cells c.toArray e (0, 0)) := by rw [e1]; exact hbw
      simp [Builtin.firstCells]
      exact run_loadCells_at hb' (by simpa using hrd)
    by_cases hroom : m + s.size ≤ cap
    · have hcl' : c.length = cap := by rw [hcl, Nat.mul_one]
      have hrun := run_appendS_room (P := P) (w := w) (s := s) ht htx hbw hcl' hroom ty
      refine ⟨_, _, hrun, fun h => by rw [h, Nat.add_zero], ?_⟩
      have hblkR : St κ h0 f (R.set i (blk b c e)) h w := ⟨hw4, _, kk, eh, hset (blk b c e) _ rfl hd, hgf, hkf, hgk, hg, hk, hwf⟩
      have h1 := hblkR.turnRow (i := i) (b := b) (c := c) (c' := wr c m (bytesV s)) (t := e) (by simp [hiL])
      rw [List.set_set] at h1
      have h2 := h1.setObj (i := i) (r := blk b (wr c m (bytesV s)) e) (by simp [hiL]) (r' := row (.slice (some ⟨b, 0, none⟩) (m + s.size) cap) e 1 (m + s.size) (xs ++ bytesV s)) ?_
      · rw [List.set_set] at h2; exact h2
      · intro g hg
        refine ⟨by rw [List.length_append, hxl, hyl]; omega, .inr ⟨b, cap, _, rfl, hroom, by rw [wr_length]; exact hcl, ?_, hg⟩⟩
        apply List.ext_getElem?
        intro j
        rw [List.getElem?_take, Nat.mul_one]
        rw [Nat.mul_one] at hxl htk
        by_cases hj : j < m + s.size
        · rw [if_pos hj, wr_get (by rw [hyl, hcl']; exact hroom)]
          by_cases hj2 : m ≤ j ∧ j < m + (bytesV s).length
          · rw [if_pos hj2, List.getElem?_append_right (by omega), hxl]
          · rw [if_neg hj2, List.getElem?_append_left (by omega), ← htk, List.getElem?_take, if_pos (by omega)]
        · rw [if_neg hj]
          rw [List.getElem?_eq_none (by rw [List.length_append, hxl, hyl]; omega)]
    · have hcl' : c.length = cap := by rw [hcl, Nat.mul_one]
      exact fresh (some ⟨b, 0, none⟩) cap rfl hroom (by omega) hold
end
section
variable {P : Program} {n : Nat} {ops : Array Oper} {l : List Oper} {o : Oper} {E : Env} {D : List Deferred} {R : List SL} {h : PH} {K : S → Prop} {Q : Exit → S → Prop}
theorem WL_appendS {x y : Operand} {t tx e : TypeId} {i : Nat} {v : Value} {s : ByteArray} {L : List UInt8} {d : Tmp} (ho : o.op = .call ⟨.builtin .append, #[x, y], #[t, tx]⟩) (hx : ev E x = some v) (hy : ev E y = some (.string s))
    (ht : ElemT P t e 1 1) (htx : P.underlying tx = some .string) (hi : R[i]? = some (rowL encB8 v e 1 L)) (hb : L.length + s.size ≤ 140737488355328) (hd : o.dst = some d) (hg : gd ops E o = some true) (hn : Nat.blt d n = true)
    (kk : ∀ v', (s.size = 0 → v' = v) → WL P n ops l ⟨(d, v') :: E, D, R.set i (rowL encB8 v' e 1 (L ++ s.data.toList)), h⟩ K Q) : WL P n ops (o :: l) ⟨E, D, R, h⟩ K Q := by
  refine WL_any (A := fun v' R' h' => (s.size = 0 → v' = v) ∧ R' = R.set i (rowL encB8 v' e 1 (L ++ s.data.toList)) ∧ h' = h) ?_ hd hg hn fun v' _ _ _ ⟨e0, e1, e2⟩ => by subst e1; subst e2; exact kk v' e0
  refine Exec_of_run fun κ h0 f a w hf ha hw => ?_
  obtain ⟨v', w', hr, h0', hs⟩ := run_appendS (s := s) hw ht htx hi hb o.type
  refine ⟨v', _, h, w', .inl ?_, le.refl _, hs, h0', ?_, rfl⟩
  · simp only [execOp, ho, resolve, invoke, builtin, Sem.run_bind, Sem.run_pure, Result.andThen_ok]
    simp [ha.ev hx, ha.ev hy, hr]
  · simp only [rowL, List.length_append, List.flatMap_append, bytesV_eq]
    rfl
/-- A row of bytes that the library makes. -/
def mkR (v : Value) (m : Nat) (e : TypeId) : SL := fun g => ∃ b cap c, v = .slice (some ⟨b, 0, none⟩) m cap ∧ m ≤ cap ∧ c.length = cap ∧ blk b c e g
theorem digits_len : ∀ (k t : Nat) (acc : Array Value), (Extern.BytealgMakeNoZero.digits k t acc).size = acc.size + k
  | 0, _, _ => rfl
  | k + 1, t, acc => by rw [Extern.BytealgMakeNoZero.digits, digits_len k]; simp; omega
theorem ex_choose {β : Type} {q : Question} {f : Nat → Sem β} {w : World} {G : Nat → Result β} (hq : q.forced = false) (k : ∀ x, (f x).run P { w with drawn := w.drawn + 1 } = G x) : ∃ x, (choose q >>= f).run P w = G x :=
  ⟨q.cut (w.tape w.drawn q), by rw [Sem.run_bind, run_choose, if_neg (by simp [hq]), Result.andThen_ok]; exact k _⟩
theorem run_makeNoZero {ps : Array TypeId} {t e : TypeId} {m : Nat} (w : World) (ht : slOf P t = some e) (hm : m ≤ 281474976710656) :
    ∃ cap c, m ≤ cap ∧ (c : List Value).length = cap ∧ (Extern.BytealgMakeNoZero.makeNoZero ps #[t] #[.int .i64 (m : Int)]).run P w = .ok (.slice (some ⟨w.heap.size, 0, none⟩) m cap) { w with drawn := w.drawn + 2, heap := w.heap.push (.cells c.toArray e (0, 0)) } := by
  let q : Question := .appendCap m 0 e
  let cap := q.cut (w.tape w.drawn q)
  have hcap : m ≤ cap := by simp only [cap, q, Question.cut]; omega
  let w1 : World := { w with drawn := w.drawn + 1 }
  suffices hx : ∃ bt, (Extern.BytealgMakeNoZero.makeNoZero ps #[t] #[.int .i64 (m : Int)]).run P w = .ok (.slice (some ⟨w.heap.size, 0, none⟩) m cap) { w with drawn := w.drawn + 2, heap := w.heap.push (.cells (Extern.BytealgMakeNoZero.digits cap bt #[]) e (0, 0)) } by
    obtain ⟨bt, hbt⟩ := hx
    exact ⟨cap, (Extern.BytealgMakeNoZero.digits cap bt #[]).toList, hcap, by simp [digits_len], hbt⟩
  have hcond : ¬ ((decide ((m : Int) < 0) || decide ((m : Int) > 2 ^ 48)) = true) := by
    simp only [Bool.or_eq_true, decide_eq_true_eq]
    omega
  have r1 : (choose (.appendCap (m : Int).toNat 0 e)).run P w = .ok cap w1 := by
    rw [Int.toNat_natCast, run_choose, if_neg (by simp [Question.forced])]
  change ∃ bt, Sem.run P (underlying t >>= fun d => _) w = Result.ok _ _
  rw [Sem.run_bind, run_underlying w (slOf_under ht), Result.andThen_ok]
  change ∃ bt, Sem.run P (ite ((decide ((m : Int) < 0) || decide ((m : Int) > 2 ^ 48)) = true) _ _) w = Result.ok _ _
  rw [if_neg hcond]
  change ∃ bt, Sem.run P (choose (.appendCap (m : Int).toNat 0 e) >>= fun d => _) w = Result.ok _ _
  rw [Sem.run_bind, r1, Result.andThen_ok]
  change ∃ bt, Sem.run P (askRoom cap >>= fun d => _) w1 = Result.ok _ _
  rw [Sem.run_bind, run_askRoom, Result.andThen_ok]
  refine ex_choose rfl fun bt => ?_
  change Sem.run P (newRow e (Extern.BytealgMakeNoZero.digits cap bt #[]) >>= fun d => _) _ = _
  simp [newRow]
  exact ⟨rfl, rfl⟩
theorem X_makeNoZero {fo : Operand} {xs : Array Operand} {tys : Array TypeId} {f : FuncId} {fn : Func} {t e : TypeId} {m : Nat} (ho : o.op = .call ⟨.value fo, xs, tys⟩) (hfo : ev E fo = some (.func (.func f) #[] #[]))
    (hxs : evs E xs.toList = some [.int .i64 (m : Int)]) (hfn : P.funcs[f]? = some fn) (hnm : (fn.name == "runtime.NumGoroutine") = false) (hb : fn.body.isNone = true) (hn : Extern.findNext fn = none)
    (he : Extern.find fn = some (Extern.BytealgMakeNoZero.makeNoZero fn.params #[t])) (ht : slOf P t = some e) (hm : m ≤ 281474976710656) :
    Exec P n o ⟨E, D, R, h⟩ (Ret fun v R' h' => R' = mkR v m e :: R ∧ h' = h) := by
  refine Exec_of_run fun κ h0 f' a w _ ha hw => ?_
  have e1 : xs.map a.eval = #[.int .i64 (m : Int)] := map_arr (ha.evs hxs)
  obtain ⟨cap, c, hcap, hcl, hrun⟩ := run_makeNoZero (P := P) (ps := fn.params) w ht hm
  have hst := (hw.drawn (w.drawn + 2)).new (.cells c.toArray e (0, 0))
  refine ⟨.slice (some ⟨w.heap.size, 0, none⟩) m cap, _, h, _, .inl ?_, le.refl _, hst.setObj (i := 0) rfl (r' := mkR (.slice (some ⟨w.heap.size, 0, none⟩) m cap) m e) (fun g hg => ⟨_, cap, c, rfl, hcap, hcl, hg⟩), rfl, rfl⟩
  simp only [execOp, ho, resolve, Deferred.ofValue, ha.ev hfo, e1, Sem.run_bind, Sem.run_pure, Result.andThen_ok, invoke, Array.append_empty, Array.empty_append]
  rw [run_callFunc_extern hfn hnm hb hn he, hrun]; rfl
theorem X_copyN {x y : Operand} {t tx e : TypeId} {a : Addr} {m cap : Nat} (ho : o.op = .call ⟨.builtin .copy, #[x, y], #[t, tx]⟩) (ht : slOf P t = some e) (hs : szOf P e = some 1) (hx : ev E x = some (.slice (some a) m cap)) (hy : ev E y = some (.slice none 0 0)) : Exec P n o ⟨E, D, R, h⟩ (Is (.int .i64 0) R h) :=
  Exec_is fun ac w ha => by
    simp [execOp, ho, resolve, invoke, builtin, ha.ev hx, ha.ev hy, Builtin.copy_, run_underlying w (slOf_under ht), run_sizeOf w hs, Builtin.lenOf, Builtin.firstCells, storeCells, goInt]
/-- One byte as a string. -/
theorem X_convB1 {s d e : TypeId} {x : Operand} {v : Value} {b : UInt8} (ho : o.op = .convert s d x) (hs : slOf P s = some e) (hd : P.underlying d = some .string) (he : P.underlying e = some (.int .u8)) (hx : ev E x = some v) (hv : Sl encB8 1 h v [b]) :
    Exec P n o ⟨E, D, R, h⟩ (Is (.string ⟨#[b]⟩) R h) := by
  refine Exec_of_run fun κ h0 f a w hf ha hw => ?_
  have hsrc := (Src.sl (P := P) (R := R) hv).2.2 κ h0 f w hf hw
  obtain ⟨va, vc, e1⟩ := hv.shape
  have e1 : v = .slice va 1 vc := e1
  subst e1
  refine ⟨_, R, h, w, .inl ?_, le.refl _, hw, rfl, rfl, rfl⟩
  cases va with
  | none =>
    obtain ⟨_, a, c, e, _, hn, _⟩ := hv
    simp only [Value.slice.injEq] at e
    have := (hn e.1.symm).1
    cases this
  | some va =>
    have hl : (loadCells va 1).run P w = .ok #[.int .u8 b.toNat] w := hsrc
    simp [execOp, ho, ha.ev hx, convert, run_underlying w (slOf_under hs), run_underlying w hd, run_underlying w he, Conv.bytesToString, hl]
    rfl
end
/-- A row that has elements, opened. -/
theorem UpdE.rowBlk {α : Type} {enc : α → List Value} {R : List SL} {h : PH} {sz : Nat} {v : Value} {L : List α} {e : TypeId} (i : Nat) (hi : R[i]? = some (rowL enc v e sz L)) (hp : 0 < L.length) :
    UpdE R h fun R' h' => h' = h ∧ ∃ b cap c, v = .slice (some ⟨b, 0, none⟩) L.length cap ∧ L.length ≤ cap ∧ c.length = cap * sz ∧ c.take (L.length * sz) = L.flatMap enc ∧ R' = R.set i (blk b c e) := fun κ h0 f w hf s => by
  have s0 := s
  obtain ⟨a1, g, k, eh, hr, rest⟩ := s
  obtain ⟨x, y, rfl, hd, ⟨hxl, hrow⟩, hset, her⟩ := stars_get hi hr
  rcases hrow with ⟨h1, h2, _⟩ | ⟨b, cap, c, h1, h2, h3, h4, h5⟩
  · omega
  · exact ⟨_, h, le.refl _, ⟨rfl, b, cap, c, h1, h2, h3, h4, rfl⟩, ⟨a1, un x y, k, eh, hset _ _ h5 hd, rest⟩⟩
end Go.Par

/- Engine: maps of one's own. It speaks of no program. -/
namespace Go.Par
open Go PH
/-- How keys of a type are told apart. -/
structure KeyD {κ : Type} [DecidableEq κ] (P : Program) (t : TypeId) (ek : κ → Value) where
  d : TypeDesc
  under : P.underlying t = some d
  same : ∀ a b, Instr.sameNow d (ek a) (ek b) = some (decide (a = b))
  chk : ∀ e k (w : World), (Instr.checkKey e 10000 t (ek k)).run P w = .ok () w
  bits : ∀ k, Instr.sameBits 10000 (ek k) (ek k) = true
def keyStr {P : Program} {t : TypeId} (h : P.underlying t = some .string) : KeyD P t (fun s : ByteArray => Value.string s) where
  d := .string
  under := h
  same a b := by show some (a == b) = _; rw [beqB_iff]
  chk e k w := by
    rw [show (10000 : Nat) = 9999 + 1 from rfl, Instr.checkKey]
    simp [run_underlying w h]
  bits k := by
    show (k == k) = true
    rw [beqB]
def keyInt {P : Program} {t : TypeId} {k : IntKind} (h : P.underlying t = some (.int k)) : KeyD P t (fun s : Int => Value.int k s) where
  d := .int k
  under := h
  same a b := by
    show (if k = k then some (a == b) else none) = _
    rw [if_pos rfl]; congr 1
  chk e k w := by
    rw [show (10000 : Nat) = 9999 + 1 from rfl, Instr.checkKey]
    simp [run_underlying w h]
  bits n := by
    show (k == k && n == n) = true
    simp
section
variable {κ β : Type} [DecidableEq κ]
def mpL (ek : κ → Value) (ev : β → Value) (b : Nat) (L : List (κ × β)) : SL := fun g => ∃ (es : Array MapEntry) (c : Nat), g = one b (.map es c) ∧ es.toList.map (fun e => (e.key, e.val)) = L.map fun x => (ek x.1, ev x.2)
def ixM : List (κ × β) → κ → Option Nat
  | [], _ => none
  | x :: L, k => if k = x.1 then some 0 else (ixM L k).map (· + 1)
def lkM : List (κ × β) → κ → Option β
  | [], _ => none
  | x :: L, k => if k = x.1 then some x.2 else lkM L k
def upM : List (κ × β) → κ → β → List (κ × β)
  | [], k, v => [(k, v)]
  | x :: L, k, v => if k = x.1 then (k, v) :: L else x :: upM L k v
def delM : List (κ × β) → κ → List (κ × β)
  | [], _ => []
  | x :: L, k => if k = x.1 then L else x :: delM L k
theorem findNow_eq {P : Program} {t : TypeId} {ek : κ → Value} {ev : β → Value} (K : KeyD P t ek) (k : κ) : ∀ (L : List (κ × β)) (es : List MapEntry) (i : Nat), es.map (fun e => (e.key, e.val)) = L.map (fun x => (ek x.1, ev x.2)) →
    Instr.findNow K.d (ek k) es i = some (match ixM L k, lkM L k with | some j, some v => some (i + j, ev v) | _, _ => none)
  | [], [], i, _ => rfl
  | [], e :: es, i, h => by simp at h
  | x :: L, [], i, h => by simp at h
  | x :: L, e :: es, i, h => by
    simp only [List.map_cons, List.cons.injEq, Prod.mk.injEq] at h
    obtain ⟨⟨h1, h2⟩, h3⟩ := h
    rw [Instr.findNow, h1, K.same]
    by_cases hk : k = x.1
    · rw [decide_eq_true hk]
      simp only [ixM, lkM, if_pos hk, h2, Nat.add_zero]
    · rw [decide_eq_false hk]
      simp only [ixM, lkM, if_neg hk]
      rw [findNow_eq K k L es (i + 1) h3]
      cases ixM L k with
      | none => cases lkM L k <;> rfl
      | some j =>
        cases lkM L k with
        | none => rfl
        | some v => simp only [Option.map_some]; congr 3; omega
theorem ix_lk : ∀ (L : List (κ × β)) (k : κ), (ixM L k = none ∧ lkM L k = none) ∨ ∃ j v, ixM L k = some j ∧ lkM L k = some v
  | [], k => .inl ⟨rfl, rfl⟩
  | x :: L, k => by
    by_cases hk : k = x.1
    · exact .inr ⟨0, x.2, by simp [ixM, hk], by simp [lkM, hk]⟩
    · rcases ix_lk L k with ⟨h1, h2⟩ | ⟨j, v, h1, h2⟩
      · exact .inl ⟨by simp [ixM, hk, h1], by simp [lkM, hk, h2]⟩
      · exact .inr ⟨j + 1, v, by simp [ixM, hk, h1], by simp [lkM, hk, h2]⟩
theorem up_none : ∀ {L : List (κ × β)} {k : κ} (v : β), ixM L k = none → upM L k v = L ++ [(k, v)]
  | [], k, v, _ => rfl
  | x :: L, k, v, h => by
    by_cases hk : k = x.1
    · simp [ixM, hk] at h
    · simp only [ixM, if_neg hk, Option.map_eq_none_iff] at h
      simp only [upM, if_neg hk, up_none v h, List.cons_append]
theorem up_some : ∀ {L : List (κ × β)} {k : κ} (v : β) {j : Nat}, ixM L k = some j → upM L k v = L.set j (k, v)
  | [], k, v, j, h => by simp [ixM] at h
  | x :: L, k, v, j, h => by
    by_cases hk : k = x.1
    · simp only [ixM, if_pos hk, Option.some.injEq] at h
      subst h
      simp only [upM, if_pos hk, List.set_cons_zero]
    · simp only [ixM, if_neg hk, Option.map_eq_some_iff] at h
      obtain ⟨a, h1, rfl⟩ := h
      simp only [upM, if_neg hk, up_some v h1, List.set_cons_succ]
theorem map_eraseIdx {α γ : Type} (f : α → γ) (l : List α) (j : Nat) : (l.eraseIdx j).map f = (l.map f).eraseIdx j := by
  rw [List.eraseIdx_eq_take_drop_succ, List.eraseIdx_eq_take_drop_succ, List.map_append, List.map_take, List.map_drop]
theorem del_none : ∀ {L : List (κ × β)} {k : κ}, ixM L k = none → delM L k = L
  | [], k, _ => rfl
  | x :: L, k, h => by
    by_cases hk : k = x.1
    · simp [ixM, hk] at h
    · simp only [ixM, if_neg hk, Option.map_eq_none_iff] at h
      simp only [delM, if_neg hk, del_none h]
theorem del_some : ∀ {L : List (κ × β)} {k : κ} {j : Nat}, ixM L k = some j → delM L k = L.eraseIdx j
  | [], k, j, h => by simp [ixM] at h
  | x :: L, k, j, h => by
    by_cases hk : k = x.1
    · simp only [ixM, if_pos hk, Option.some.injEq] at h
      subst h
      simp only [delM, if_pos hk, List.eraseIdx_cons_zero]
    · simp only [ixM, if_neg hk, Option.map_eq_some_iff] at h
      obtain ⟨a, h1, rfl⟩ := h
      simp only [delM, if_neg hk, del_some h1, List.eraseIdx_cons_succ]
end
section
variable {P : Program} {n : Nat} {ops : Array Oper} {l : List Oper} {o : Oper} {E : Env} {D : List Deferred} {R : List SL} {h : PH} {K : S → Prop} {Q : Exit → S → Prop}
variable {κ β : Type} {ek : κ → Value} {ev : β → Value}
/-- What a map of one's own holds, in the world. -/
theorem St.map_at {κ0 : World} {h0 f : PH} {w : World} {i b : Nat} {L : List (κ × β)} (s : St κ0 h0 f R h w) (hi : R[i]? = some (mpL ek ev b L)) :
    ∃ es c, w.heap[b]? = some (.map es c) ∧ es.toList.map (fun e => (e.key, e.val)) = L.map (fun x => (ek x.1, ev x.2)) ∧ St κ0 h0 f (R.set i (obj b (.map es c))) h w := by
  obtain ⟨a1, g, k, eh, hr, rest⟩ := s
  obtain ⟨x, y, rfl, hd, ⟨es, c, rfl, he⟩, hset, her⟩ := stars_get hi hr
  obtain ⟨r1, r2, r3, r4, r5, r6⟩ := rest
  refine ⟨es, c, r4 b _ (by simp [un, one]), he, a1, _, k, eh, hset (obj b (.map es c)) _ rfl hd, r1, r2, r3, r4, r5, r6⟩
theorem X_makeMap {t : TypeId} (ho : o.op = .makeMap t none) : Exec P n o ⟨E, D, R, h⟩ (Ret fun v R' h' => ∃ b, v = .map (some b) ∧ R' = mpL ek ev b ([] : List (κ × β)) :: R ∧ h' = h) := by
  refine Exec_of_run fun κ0 h0 f a w _ ha hw => ?_
  have hst := hw.new (.map #[] 0)
  refine ⟨.map (some w.heap.size), _, h, _, .inl ?_, le.refl _, hst.setObj (i := 0) rfl (r' := mpL ek ev w.heap.size ([] : List (κ × β))) (fun g hg => ⟨#[], 0, hg, rfl⟩), w.heap.size, rfl, rfl, rfl⟩
  simp [execOp, ho, Instr.makeMap, newObj]
  rfl
theorem run_getMap {w : World} {b : Nat} {es : Array MapEntry} {c : Nat} (hb : w.heap[b]? = some (.map es c)) : (getObj b).run P w = .ok (.map es c) w := by simp [getObj, Sem.run, hb]
theorem X_lenMap {x : Operand} {t kt vt : TypeId} {i b : Nat} {L : List (κ × β)} (ho : o.op = .call ⟨.builtin .len, #[x], #[t]⟩) (ht : P.underlying t = some (.map kt vt)) (hx : Par.ev E x = some (.map (some b))) (hi : R[i]? = some (mpL ek ev b L)) :
    Exec P n o ⟨E, D, R, h⟩ (Is (.int .i64 L.length) R h) := by
  refine Exec_of_run fun κ0 h0 f a w _ ha hw => ?_
  obtain ⟨es, c, hb, he, -⟩ := hw.map_at hi
  have hl : es.size = L.length := by
    have := congrArg List.length he
    simpa using this
  refine ⟨_, R, h, w, .inl ?_, le.refl _, hw, rfl, rfl, rfl⟩
  simp [execOp, ho, resolve, invoke, builtin, ha.ev hx, Builtin.len_, run_underlying w ht, run_getMap hb, goInt, hl]
variable [DecidableEq κ]
theorem run_setMap {w : World} {b : Nat} {es es' : Array MapEntry} {c c' : Nat} (hb : w.heap[b]? = some (.map es c)) : (setObj b (.map es' c')).run P w = .ok () { w with heap := w.heap.setIfInBounds b (.map es' c') } := by simp [setObj, Sem.run, hb]
theorem St.setMap {κ0 : World} {h0 f : PH} {w : World} {i b : Nat} {es es' : Array MapEntry} {c c' : Nat} (s : St κ0 h0 f R h w) (hi : R[i]? = some (obj b (.map es c))) : St κ0 h0 f (R.set i (obj b (.map es' c'))) h { w with heap := w.heap.setIfInBounds b (.map es' c') } := by
  have hb := s.obj_at hi
  have hl : b < w.heap.size := (Array.getElem?_eq_some_iff.1 hb).1
  exact s.turn hi (by simp) rfl rfl rfl (by simp [hl]) (fun b' hne => by simp [Ne.symm hne])
theorem run_findKey {t : TypeId} (KD : KeyD P t ek) (k : κ) (w : World) {L : List (κ × β)} {es : Array MapEntry} (he : es.toList.map (fun e => (e.key, e.val)) = L.map (fun x => (ek x.1, ev x.2))) :
    (Instr.findKey t (ek k) es.toList).run P w = .ok (match ixM L k, lkM L k with | some j, some v => some (j, ev v) | _, _ => none) w := by
  simp only [Instr.findKey, Sem.run_bind, run_underlying w KD.under, Result.andThen_ok]
  rw [findNow_eq KD k L es.toList 0 he]
  simp only [Nat.zero_add, Sem.run_pure]
theorem X_lookup_ok {x y : Operand} {t kt vt : TypeId} {i b : Nat} {L : List (κ × β)} {k : κ} {z : Value} (ho : o.op = .lookup t x y true) (ht : P.underlying t = some (.map kt vt)) (KD : KeyD P kt ek) (hz : zeOf P vt = some z)
    (hx : Par.ev E x = some (.map (some b))) (hy : Par.ev E y = some (ek k)) (hi : R[i]? = some (mpL ek ev b L)) : Exec P n o ⟨E, D, R, h⟩ (Is (.tuple #[((lkM L k).map ev).getD z, .bool (lkM L k).isSome]) R h) := by
  refine Exec_of_run fun κ0 h0 f a w _ ha hw => ?_
  obtain ⟨es, c, hb, he, -⟩ := hw.map_at hi
  have hf := run_findKey (P := P) KD k w he
  refine ⟨_, R, h, w, .inl ?_, le.refl _, hw, rfl, rfl, rfl⟩
  simp only [execOp, ho, ha.ev hx, ha.ev hy, Instr.lookup, Sem.run_bind, run_underlying w ht, Result.andThen_ok, run_getMap hb, Sem.run_pure, KD.chk, hf]
  rcases ix_lk L k with ⟨h1, h2⟩ | ⟨j, v, h1, h2⟩
  · simp [h1, h2, run_zeroValue w hz]
  · simp [h1, h2]
theorem X_lookup {x y : Operand} {t kt vt : TypeId} {i b : Nat} {L : List (κ × β)} {k : κ} {z : Value} (ho : o.op = .lookup t x y false) (ht : P.underlying t = some (.map kt vt)) (KD : KeyD P kt ek) (hz : zeOf P vt = some z)
    (hx : Par.ev E x = some (.map (some b))) (hy : Par.ev E y = some (ek k)) (hi : R[i]? = some (mpL ek ev b L)) : Exec P n o ⟨E, D, R, h⟩ (Is (((lkM L k).map ev).getD z) R h) := by
  refine Exec_of_run fun κ0 h0 f a w _ ha hw => ?_
  obtain ⟨es, c, hb, he, -⟩ := hw.map_at hi
  have hf := run_findKey (P := P) KD k w he
  refine ⟨_, R, h, w, .inl ?_, le.refl _, hw, rfl, rfl, rfl⟩
  simp only [execOp, ho, ha.ev hx, ha.ev hy, Instr.lookup, Sem.run_bind, run_underlying w ht, Result.andThen_ok, run_getMap hb, Sem.run_pure, KD.chk, hf]
  rcases ix_lk L k with ⟨h1, h2⟩ | ⟨j, v, h1, h2⟩
  · simp [h1, h2, run_zeroValue w hz]
  · simp [h1, h2]
theorem run_keyStays {t : TypeId} (KD : KeyD P t ek) (k : κ) (w : World) : (Instr.keyThatStays (ek k) (ek k)).run P w = .ok (ek k) w := by
  simp only [Instr.keyThatStays, KD.bits, if_true, Sem.run_pure]
theorem ix_get : ∀ {L : List (κ × β)} {k : κ} {j : Nat}, ixM L k = some j → ∃ x, L[j]? = some x ∧ x.1 = k
  | [], k, j, h => by simp [ixM] at h
  | x :: L, k, j, h => by
    by_cases hk : k = x.1
    · simp only [ixM, if_pos hk, Option.some.injEq] at h
      subst h
      exact ⟨x, rfl, hk.symm⟩
    · simp only [ixM, if_neg hk, Option.map_eq_some_iff] at h
      obtain ⟨a, h1, rfl⟩ := h
      simpa using ix_get h1
theorem WL_mapUpdate {x y z : Operand} {t kt vt : TypeId} {i b : Nat} {L : List (κ × β)} {k : κ} {v : β} (ho : o.op = .mapUpdate t x y z) (ht : P.underlying t = some (.map kt vt)) (KD : KeyD P kt ek)
    (hx : Par.ev E x = some (.map (some b))) (hy : Par.ev E y = some (ek k)) (hz : Par.ev E z = some (ev v)) (hi : R[i]? = some (mpL ek ev b L)) (hd : o.dst = none) (hg : gd ops E o = some true)
    (kk : WL P n ops l ⟨E, D, R.set i (mpL ek ev b (upM L k v)), h⟩ K Q) : WL P n ops (o :: l) ⟨E, D, R, h⟩ K Q := by
  refine WL_do (A := fun _ R' h' => R' = R.set i (mpL ek ev b (upM L k v)) ∧ h' = h) ?_ hd hg fun _ _ _ _ ⟨e1, e2⟩ => by subst e1; subst e2; exact kk
  refine Exec_of_run fun κ0 h0 f a w _ ha hw => ?_
  obtain ⟨es, c, hb, he, hst⟩ := hw.map_at hi
  have hf := run_findKey (P := P) KD k w he
  have hiL : i < R.length := by
    rcases Nat.lt_or_ge i R.length with h | h
    · exact h
    · simp [List.getElem?_eq_none h] at hi
  have hi2 : (R.set i (obj b (.map es c)))[i]? = some (obj b (.map es c)) := by simp [hiL]
  rcases ix_lk L k with ⟨h1, h2⟩ | ⟨j, u, h1, h2⟩
  · have h3 := (hst.setMap (es' := es.push { key := ek k, val := ev v, born := c }) (c' := c + 1) hi2)
    rw [List.set_set] at h3
    have h4 := h3.setObj (i := i) (r := obj b (.map (es.push { key := ek k, val := ev v, born := c }) (c + 1))) (by simp [hiL]) (r' := mpL ek ev b (upM L k v)) (fun g hg => ⟨_, _, hg, by rw [up_none v h1]; simp [he]⟩)
    rw [List.set_set] at h4
    refine ⟨_, _, h, _, .inr ⟨rfl, ?_⟩, le.refl _, h4, rfl, rfl⟩
    simp only [execOp, ho, ha.ev hx, ha.ev hy, ha.ev hz, Instr.mapUpdate, Sem.run_bind, run_underlying w ht, Result.andThen_ok, run_getMap hb, Sem.run_pure, KD.chk, hf, h1, h2]
    rw [run_setMap hb]; rfl
  · obtain ⟨x0, hx0, hxk⟩ := ix_get h1
    have hej : ∃ e, es[j]? = some e ∧ e.key = ek k := by
      have h9 : (es.toList.map (fun e => (e.key, e.val)))[j]? = (L.map (fun x => (ek x.1, ev x.2)))[j]? := by rw [he]
      rw [List.getElem?_map, List.getElem?_map, hx0] at h9
      simp only [Option.map_some, Option.map_eq_some_iff, Prod.mk.injEq] at h9
      obtain ⟨e, h10, h11, _⟩ := h9
      exact ⟨e, by simpa using h10, by rw [h11, hxk]⟩
    obtain ⟨e0, he0, hek⟩ := hej
    have h3 := (hst.setMap (es' := es.modify j fun e => { e with key := ek k, val := ev v }) (c' := c) hi2)
    rw [List.set_set] at h3
    have hmap : (es.modify j fun e => { e with key := ek k, val := ev v }).toList.map (fun e => (e.key, e.val)) = (upM L k v).map (fun x => (ek x.1, ev x.2)) := by
      rw [up_some v h1]
      apply List.ext_getElem?
      intro q
      have hq := congrArg (fun l => l[q]?) he
      simp only [List.getElem?_map] at hq
      rw [List.getElem?_map, List.getElem?_map, Array.getElem?_toList, Array.getElem?_modify]
      rw [Array.getElem?_toList] at hq
      by_cases hqj : j = q
      · subst hqj
        have hlt : j < L.length := (List.getElem?_eq_some_iff.1 hx0).1
        rw [if_pos rfl, he0, List.getElem?_set_self hlt]
        rfl
      · rw [if_neg hqj, List.getElem?_set_ne hqj]
        exact hq
    have h4 := h3.setObj (i := i) (r := obj b (.map (es.modify j fun e => { e with key := ek k, val := ev v }) c)) (by simp [hiL]) (r' := mpL ek ev b (upM L k v)) (fun g hg => ⟨_, _, hg, hmap⟩)
    rw [List.set_set] at h4
    have hks := run_keyStays (P := P) KD k w
    refine ⟨_, _, h, _, .inr ⟨rfl, ?_⟩, le.refl _, h4, rfl, rfl⟩
    simp only [execOp, ho, ha.ev hx, ha.ev hy, ha.ev hz, Instr.mapUpdate, Sem.run_bind, run_underlying w ht, Result.andThen_ok, run_getMap hb, Sem.run_pure, KD.chk, hf, h1, h2, he0, Option.map_some, Option.getD_some, hek, hks]
    rw [run_setMap hb]; rfl
theorem WL_delete {x y : Operand} {t tk kt vt : TypeId} {i b : Nat} {L : List (κ × β)} {k : κ} (ho : o.op = .call ⟨.builtin .delete, #[x, y], #[t, tk]⟩) (ht : P.underlying t = some (.map kt vt)) (KD : KeyD P kt ek)
    (hx : Par.ev E x = some (.map (some b))) (hy : Par.ev E y = some (ek k)) (hi : R[i]? = some (mpL ek ev b L)) (hd : o.dst = none) (hg : gd ops E o = some true)
    (kk : WL P n ops l ⟨E, D, R.set i (mpL ek ev b (delM L k)), h⟩ K Q) : WL P n ops (o :: l) ⟨E, D, R, h⟩ K Q := by
  refine WL_do (A := fun _ R' h' => R' = R.set i (mpL ek ev b (delM L k)) ∧ h' = h) ?_ hd hg fun _ _ _ _ ⟨e1, e2⟩ => by subst e1; subst e2; exact kk
  refine Exec_of_run fun κ0 h0 f a w _ ha hw => ?_
  obtain ⟨es, c, hb, he, hst⟩ := hw.map_at hi
  have hf := run_findKey (P := P) KD k w he
  have ex := ha.ev hx
  have ey := ha.ev hy
  have hiL : i < R.length := by
    rcases Nat.lt_or_ge i R.length with h | h
    · exact h
    · simp [List.getElem?_eq_none h] at hi
  have hi2 : (R.set i (obj b (.map es c)))[i]? = some (obj b (.map es c)) := by simp [hiL]
  rcases ix_lk L k with ⟨h1, h2⟩ | ⟨j, u, h1, h2⟩
  · have h3 := (hst.setMap (es' := es) (c' := c) hi2)
    rw [List.set_set] at h3
    have h4 := h3.setObj (i := i) (r := obj b (.map es c)) (by simp [hiL]) (r' := mpL ek ev b (delM L k)) (fun g hg => ⟨_, _, hg, by rw [del_none h1]; exact he⟩)
    rw [List.set_set] at h4
    refine ⟨.tuple #[], _, h, _, .inl ?_, le.refl _, h4, rfl, rfl⟩
    simp [execOp, ho, resolve, invoke, builtin, Builtin.delete_, ex, ey, run_underlying w ht, run_getMap hb, KD.chk, hf, h1, h2, run_setMap hb]
  · have h3 := (hst.setMap (es' := es.eraseIdxIfInBounds j) (c' := c) hi2)
    rw [List.set_set] at h3
    have hmap : (es.eraseIdxIfInBounds j).toList.map (fun e => (e.key, e.val)) = (delM L k).map (fun x => (ek x.1, ev x.2)) := by
      rw [del_some h1, Array.toList_eraseIdxIfInBounds, map_eraseIdx, map_eraseIdx, he]
    have h4 := h3.setObj (i := i) (r := obj b (.map (es.eraseIdxIfInBounds j) c)) (by simp [hiL]) (r' := mpL ek ev b (delM L k)) (fun g hg => ⟨_, _, hg, hmap⟩)
    rw [List.set_set] at h4
    refine ⟨.tuple #[], _, h, _, .inl ?_, le.refl _, h4, rfl, rfl⟩
    simp [execOp, ho, resolve, invoke, builtin, Builtin.delete_, ex, ey, run_underlying w ht, run_getMap hb, KD.chk, hf, h1, h2, run_setMap hb]
end
end Go.Par
/- Engine: regions that draw, in which one operation takes what another has made. It speaks of no program. -/
namespace Go.Par
open Go PH
/-- One operation of a region makes what another takes: who makes, who takes, whose value is laid into it, what is made, what is left of it. -/
structure Pair where
  p : Nat
  c : Nat
  d : Nat
  O : Value → List SL
  O2 : Value → Value → List SL
def Pair.hp (T : Pair) (vs : Nat → Value) (l : Nat → Bool) : List SL := match l T.p with | false => [] | true => match l T.c with | false => T.O (vs T.p) | true => T.O2 (vs T.p) (vs T.d)
def Pair.inn (T : Pair) (vs : Nat → Value) (i : Nat) : List SL := if i = T.c then T.O (vs T.p) else []
def Pair.out (T : Pair) (vs : Nat → Value) (i : Nat) (v : Value) : List SL := if i = T.p then T.O v else if i = T.c then T.O2 (vs T.p) (vs T.d) else []
theorem Pair.step (T : Pair) (vs : Nat → Value) (l : Nat → Bool) (i : Nat) (hpc : T.p ≠ T.c) (_hdp : T.d ≠ T.p) (hdc : T.d ≠ T.c) (hi : l i = false) (hc : i = T.c → l T.p = true) (hcp : l T.c = true → l T.p = true ∧ l T.d = true) : ∃ Y, T.hp vs l = T.inn vs i ++ Y ∧ ∀ v, T.hp (fun j => if j = i then v else vs j) (fun j => if j = i then true else l j) = T.out vs i v ++ Y := by
  by_cases h1 : i = T.p
  · subst h1
    refine ⟨[], by simp [Pair.hp, Pair.inn, hi, hpc], fun v => ?_⟩
    have h2 : ¬ T.c = T.p := fun e => hpc e.symm
    have h3 : l T.c = false := by
      cases h : l T.c with
      | false => rfl
      | true => rw [(hcp h).1] at hi; cases hi
    simp [Pair.hp, Pair.out, h2, h3]
  · have h1' : ¬ T.p = i := fun e => h1 e.symm
    by_cases h2 : i = T.c
    · subst h2
      refine ⟨[], by simp [Pair.hp, Pair.inn, hc rfl, hi], fun v => ?_⟩
      simp [Pair.hp, Pair.out, hc rfl, hpc, h1, hdc]
    · have h2' : ¬ T.c = i := fun e => h2 e.symm
      refine ⟨T.hp vs l, by simp [Pair.inn, h2], fun v => ?_⟩
      by_cases h3 : T.d = i
      · have h4 : l T.c = false := by
          cases h : l T.c with
          | false => rfl
          | true => rw [← h3, (hcp h).2] at hi; cases hi
        simp [Pair.hp, Pair.out, h1, h2, h1', h2', h4]
      · simp [Pair.hp, Pair.out, h1, h2, h1', h2', h3]
theorem pmB {α : Type _} (O X R0 U Y R1 : List α) : ((O ++ (U ++ R0)) ++ (X ++ (Y ++ R1))).Perm (O ++ (X ++ (R0 ++ (U ++ (Y ++ R1))))) := by
  rw [List.append_assoc]
  refine List.Perm.append_left _ ((List.perm_append_comm_assoc _ _ _).trans (List.Perm.append_left _ ?_))
  rw [← List.append_assoc R0]
  exact List.perm_append_comm.append_right _
theorem pmA {α : Type _} (C X R0 I Y R1 : List α) : ((C ++ X) ++ (R0 ++ ((I ++ Y) ++ R1))).Perm ((C ++ (I ++ R0)) ++ (X ++ (Y ++ R1))) := by
  rw [List.append_assoc, List.append_assoc I]
  exact (pmB C X R0 I Y R1).symm
theorem pmC {α : Type _} (A B C D : List α) : (A ++ (B ++ (C ++ D))).Perm (C ++ (A ++ (B ++ D))) := by
  rw [← List.append_assoc A, ← List.append_assoc A B D]
  exact List.perm_append_comm_assoc _ _ _
def ObT (T : Pair) (P : Program) (n : Nat) (ops : Array Oper) (E0 : Env) (D : List Deferred) (R : List SL) (h : PH) (i : Nat) (o : Oper) (sp : Sp) (dn : Done) : Prop :=
  dOk n o.dst = true ∧ sp.stays ∧ (i = T.c → hasE o.after.toList T.p = true ∧ hasE o.after.toList T.d = true) ∧
  ((i ≠ T.p ∧ i ≠ T.c ∧ sp = .val undef ∧ ∀ vs, gd ops (av o.after.toList vs dn ++ E0) o = some false) ∨
   ((∀ vs, gd ops (av o.after.toList vs dn ++ E0) o = some true) ∧
    ∀ vs h', le h h' → fc o.after.toList vs h' dn → Exec P n o ⟨av o.after.toList vs dn ++ E0, D, sp.C ++ (T.inn vs i ++ R), h'⟩ (fun e R' h'' => ∃ v, e = .returned v ∧ sp.holds v h'' ∧ SubR R' (sp.O v ++ (T.out vs i v ++ R)))))
def RGT (T : Pair) (P : Program) (n : Nat) (ops : Array Oper) (E0 : Env) (D : List Deferred) (R : List SL) (h : PH) (K : Done → Prop) : Nat → List Oper → Done → Prop
  | _, [], dn => K dn
  | i, o :: l, dn => ∃ sp, ObT T P n ops E0 D R h i o sp dn ∧ RGT T P n ops E0 D R h K (i + 1) l ((i, o.dst, sp) :: dn)
theorem RGT_mono {T : Pair} {P : Program} {n : Nat} {ops : Array Oper} {E0 : Env} {D : List Deferred} {R : List SL} {h : PH} {K K' : Done → Prop} (hk : ∀ dn, K dn → K' dn) : ∀ {l : List Oper} {i : Nat} {dn : Done}, RGT T P n ops E0 D R h K i l dn → RGT T P n ops E0 D R h K' i l dn
  | [], _, _, H => hk _ H
  | _ :: _, _, _, ⟨sp, ho, H⟩ => ⟨sp, ho, RGT_mono hk H⟩
/-- An operation that has no part in it, by the rules for all regions that draw. -/
theorem RGT_step {T : Pair} {P : Program} {n : Nat} {ops : Array Oper} {E0 : Env} {D : List Deferred} {R : List SL} {h : PH} {K : Done → Prop} {i : Nat} {o : Oper} {l : List Oper} {dn : Done} (h1 : i ≠ T.p) (h2 : i ≠ T.c)
    (H : RG P n ops E0 D R h (fun dn' => RGT T P n ops E0 D R h K (i + 1) l dn') i [o] dn) : RGT T P n ops E0 D R h K i (o :: l) dn := by
  obtain ⟨sp, ⟨a1, a2, a3⟩, k⟩ := H
  refine ⟨sp, ⟨a1, a2, fun e => absurd e h2, ?_⟩, k⟩
  rcases a3 with ⟨b1, b2⟩ | ⟨b1, b2⟩
  · exact .inl ⟨h1, h2, b1, b2⟩
  · refine .inr ⟨b1, fun vs h' hl hf => ?_⟩
    have := b2 vs h' hl hf
    simpa [Pair.inn, Pair.out, h1, h2] using this
theorem RGT_all {T : Pair} {P : Program} {n : Nat} {ops : Array Oper} {E0 : Env} {D : List Deferred} {R : List SL} {h : PH} {K : Done → Prop} {dst : Nat → Option Tmp} :
    ∀ (l : List Oper) (i : Nat) (sp0 : Nat → Sp), (∀ k o, l[k]? = some o → dst (i + k) = o.dst) → RGT T P n ops E0 D R h K i l (dnOf dst sp0 i) →
      ∃ sp : Nat → Sp, (∀ j, j < i → sp j = sp0 j) ∧ (∀ k o, l[k]? = some o → ObT T P n ops E0 D R h (i + k) o (sp (i + k)) (dnOf dst sp (i + k))) ∧ K (dnOf dst sp (i + l.length))
  | [], i, sp0, _, H => ⟨sp0, fun _ _ => rfl, fun k o hk => by simp at hk, by simpa [RGT] using H⟩
  | o :: l, i, sp0, hd, H => by
    obtain ⟨s, hob, hr⟩ := H
    have h0 : dst i = o.dst := hd 0 o rfl
    let sp1 : Nat → Sp := fun j => if j = i then s else sp0 j
    have e1 : dnOf dst sp1 i = dnOf dst sp0 i := dnOf_congr fun j hj => by simp only [sp1, if_neg (by omega : ¬ j = i)]
    have e2 : (i, o.dst, s) :: dnOf dst sp0 i = dnOf dst sp1 (i + 1) := by simp only [dnOf, e1, h0, sp1, if_true]
    rw [e2] at hr
    obtain ⟨sp, ha, hb, hc⟩ := RGT_all l (i + 1) sp1 (fun k o' hk => by have := hd (k + 1) o' (by simpa using hk); rw [← this]; congr 1; omega) hr
    refine ⟨sp, fun j hj => by rw [ha j (by omega)]; simp only [sp1, if_neg (by omega : ¬ j = i)], ?_, by rw [List.length_cons, show i + (l.length + 1) = i + 1 + l.length from by omega]; exact hc⟩
    intro k o' hk
    cases k with
    | zero =>
      simp at hk; subst hk
      have : sp i = s := by rw [ha i (by omega)]; simp only [sp1, if_true]
      rw [Nat.add_zero, this, dnOf_congr (sp' := sp0) fun j hj => by rw [ha j (by omega)]; simp only [sp1, if_neg (by omega : ¬ j = i)]]
      exact hob
    | succ k =>
      have := hb k o' (by simpa using hk)
      rw [show i + (k + 1) = i + 1 + k from by omega]
      exact this

section
variable {P : Program} {n : Nat} {ops : Array Oper} {E : Env} {D : List Deferred} {R : List SL} {h : PH} {Q : Exit → S → Prop}
theorem W_drawT {id : Nat} {l1 l2 : List Oper} (T : Pair) (hpc : Nat.blt T.p T.c = true) (hdp : Nat.beq T.d T.p = false) (hdc0 : Nat.blt T.d T.c = true) (m : Nat) (hcm : Nat.blt T.c m = true) (E0 : Env) (R1 R0 : List SL) (hP : P.follows .mixedOrders = true) (hl1 : ops.toList.take m = l1) (hl2 : ops.toList.drop m = l2)
    (hE0 : SubE E E0) (hok : drawOk1 m l1 l2 = true)
    (hg : RGT T P n ops E0 D R0 h (fun dn => (R.Perm (allC dn ++ (R0 ++ R1)) ∧ ((∀ vs h', le h h' → endF vs h' dn → WL P n ops l2 ⟨endE vs dn ++ E0, D, T.O2 (vs T.p) (vs T.d) ++ (endR vs dn ++ (R0 ++ R1)), h'⟩ (fun s' => Q .normal s') Q) ∨
      (∀ vs, WL P n ops l2 ⟨endE vs dn ++ E0, D, T.O2 (vs T.p) (vs T.d) ++ (endR vs dn ++ (R0 ++ R1)), h⟩ (fun s' => Q .normal s') Q))) ∧ (freshIn E0 (dstsOf l1) = true ∨ ovr E0 dn)) 0 l1 []) :
    W P n (.region id ops true) ⟨E, D, R, h⟩ Q := by
  simp only [drawOk1, Bool.and_eq_true] at hok
  obtain ⟨⟨⟨⟨hb1, hw2⟩, hb2⟩, hnd⟩, hlen⟩ := hok
  have hlen : l1.length = m := Nat.eq_of_beq_eq_true hlen
  have hpc : T.p < T.c := by simpa [Nat.blt_eq] using hpc
  have hcm : T.c < m := by simpa [Nat.blt_eq] using hcm
  have hdc0 : T.d < T.c := by simpa [Nat.blt_eq] using hdc0
  have hdp : T.d ≠ T.p := by intro e; rw [e] at hdp; simp at hdp
  let dst : Nat → Option Tmp := fun j => (l1[j]?).bind (·.dst)
  have at1 : ∀ k o, l1[k]? = some o → ops[k]? = some o := fun k o hk => by
    rw [← Array.getElem?_toList]
    rw [← hl1, List.getElem?_take] at hk
    split at hk <;> simp_all
  have at1' : ∀ k o, k < m → ops[k]? = some o → l1[k]? = some o := fun k o hk ho => by
    rw [← hl1, List.getElem?_take, if_pos hk, Array.getElem?_toList]; exact ho
  have at2 : ∀ i o, m ≤ i → ops[i]? = some o → waits1 l1 m o i = true ∧ edgesBack o i = true := fun i o hi ho => by
    have hx : l2[i - m]? = some o := by
      rw [← hl2, List.getElem?_drop, Array.getElem?_toList, show m + (i - m) = i from by omega]; exact ho
    have a := waitAll_at hw2 hx
    have b := backAll_at hb2 hx
    rw [show m + (i - m) = i from by omega] at a b
    exact ⟨a, b⟩
  obtain ⟨sp, _, hob, hK⟩ := RGT_all (T := T) (dst := dst) l1 0 (fun _ => .val undef) (fun k o hk => by simp [dst, hk]) hg
  simp only [Nat.zero_add, hlen] at hob hK
  obtain ⟨⟨hR, hK⟩, hfr⟩ := hK
  intro κ h0 f a w hf ha hw
  refine wpIn_region_any hP ?_
  have ha0 : EnvOk n E0 D a := ha.sub hE0
  have hh0 : le h0 h := hw.h_le
  -- the invariant
  have key : ∀ (fuel : Nat) (listed : Array Bool) (a : Act) (w : World) (vs : Nat → Value) (hc : PH), Dc l1 (lf listed) → cntU (lf listed) ops.size = fuel → listed.size = ops.size → (∀ j, m ≤ j → lf listed j = false) → le h hc →
      EnvOk n E0 D a → (∀ j, j < m → lf listed j = true → (sp j).holds (vs j) hc ∧ ∀ d, dst j = some d → a.tmps[d]? = some (vs j)) → St κ h0 f (pool sp vs (lf listed) m ++ (R0 ++ (T.hp vs (lf listed) ++ R1))) hc w →
      wpAnyIn (fen D) 0 P .any ops (fun e a' w' => e ≠ .outgrown ∧ ∃ s', EnvOk n s'.E s'.D a' ∧ (St κ h0 f s'.R s'.h w' ∧ roOf s'.D = roOf D) ∧ Q e s') fuel listed a w := by
    intro fuel
    have hN : m ≤ ops.size := by rw [← hlen, ← hl1, List.length_take, Array.length_toList]; omega
    have stage2 : ∀ (listed : Array Bool) (a : Act) (w : World) (vs : Nat → Value) (hc : PH) (fuel : Nat), cntU (lf listed) ops.size = fuel → listed.size = ops.size → (∀ j, m ≤ j → lf listed j = false) → le h hc →
        EnvOk n E0 D a → (∀ j, j < m → lf listed j = true → (sp j).holds (vs j) hc ∧ ∀ d, dst j = some d → a.tmps[d]? = some (vs j)) → St κ h0 f (pool sp vs (lf listed) m ++ (R0 ++ (T.hp vs (lf listed) ++ R1))) hc w →
        (∀ j, j < m → lf listed j = true) → wpAnyIn (fen D) 0 P .any ops (fun e a' w' => e ≠ .outgrown ∧ ∃ s', EnvOk n s'.E s'.D a' ∧ (St κ h0 f s'.R s'.h w' ∧ roOf s'.D = roOf D) ∧ Q e s') fuel listed a w := by
      intro listed a w vs hc fuel hcnt hs hge hle ha hv hst hall
      have hcN : cntU (lf listed) ops.size = ops.size - m := by
        have aux : ∀ k, m ≤ k → cntU (lf listed) k = k - m := by
          intro k hk
          induction k with
          | zero => simp [cntU]
          | succ k ih =>
            rcases Nat.lt_or_ge k m with h' | h'
            · have hkm : k + 1 = m := by omega
              have : ∀ i, i ≤ m → cntU (lf listed) i = 0 := by
                intro i hi
                induction i with
                | zero => rfl
                | succ i ih2 => simp only [cntU, ih2 (by omega), hall i (by omega), if_true]
              rw [hkm, this m (Nat.le_refl _)]; omega
            · simp only [cntU, ih h', hge k h']; simp; omega
        exact aux _ hN
      refine any_of_tail at2 fuel m listed a w (by omega) (Nat.le_refl _) hs ?_ ?_
      · intro j hj
        rcases Nat.lt_or_ge j m with h' | h'
        · rw [hall j h']; simp [h']
        · rw [hge j h']; simp; omega
      · rw [pool_all (dst := dst) hall] at hst
        have hae : EnvOk n (endE vs (dnOf dst sp m) ++ E0) D a := by
          refine ⟨ha.1, ha.2.1, fun t v hl => ?_⟩
          rcases lk_append hl with hl | hl
          · obtain ⟨j, s, hm, hx⟩ := endE_lk hl
            obtain ⟨hj, hd, rfl⟩ := dnOf_mem hm
            obtain ⟨hho, hd'⟩ := hv j hj (hall j hj)
            have := hd' t hd.symm
            cases hs : sp j with
            | val u => rw [hs] at hx hho; simp at hx; rw [hx]; simp only [Sp.holds] at hho; rw [← hho]; exact this
            | opq A C O => rw [hs] at hx; simp at hx; rw [hx]; exact this
          · exact ha.2.2 t v hl
        have hhp : T.hp vs (lf listed) = T.O2 (vs T.p) (vs T.d) := by simp [Pair.hp, hall T.p (by omega), hall T.c (by omega)]
        rw [hhp] at hst
        have hst := hst.perm (pmC _ _ _ _)
        have hT : Then (fun s' => Q .normal s') Q = Q := by funext e s'; cases e <;> rfl
        have hfl : fuel = l2.length := by rw [← hl2, List.length_drop, Array.length_toList]; omega
        rcases hK with hK | hK
        · have := hK vs hc hle (endF_of fun j d s hm => by
            obtain ⟨hj, _, rfl⟩ := dnOf_mem hm
            exact (hv j hj (hall j hj)).1) κ h0 f a w hf hae hst m hl2
          rw [hT] at this
          rw [hfl]; exact this
        · have := hK vs κ h0 f a w hf hae (St.weaken hh0 hle hst) m hl2
          rw [hT] at this
          rw [hfl]; exact this
    induction fuel with
    | zero =>
      intro listed a w vs hc _ hcnt hs hge hle ha hv hst
      exact stage2 listed a w vs hc 0 hcnt hs hge hle ha hv hst fun j hj => cntU_zero hcnt j (by omega)
    | succ fuel ih =>
      intro listed a w vs hc hdc hcnt hs hge hle ha hv hst
      by_cases hall : ∀ j, j < m → lf listed j = true
      · exact stage2 listed a w vs hc _ hcnt hs hge hle ha hv hst hall
      · -- somebody of the first ones may come up
        have hmin : ∃ j, j < m ∧ lf listed j = false ∧ ∀ i, i < j → lf listed i = true := by
          have : ∀ k, k ≤ m → (∀ j, j < k → lf listed j = true) ∨ ∃ j, j < m ∧ lf listed j = false ∧ ∀ i, i < j → lf listed i = true := by
            intro k hk
            induction k with
            | zero => exact .inl fun j hj => by omega
            | succ k ih2 =>
              rcases ih2 (by omega) with h' | h'
              · cases hl : lf listed k with
                | true =>
                  refine .inl ?_
                  intro j hj
                  by_cases h2 : j < k
                  · exact h' j h2
                  · rw [show j = k from by omega]; exact hl
                | false => exact .inr ⟨k, by omega, hl, h'⟩
              · exact .inr h'
          rcases this m (Nat.le_refl _) with h' | h'
          · exact absurd h' hall
          · exact h'
        obtain ⟨j0, hj0, hl0, hbelow⟩ := hmin
        have hr0 : j0 ∈ Region.ready .any ops listed := by
          have ho : ops[j0]? = some ops[j0] := Array.getElem?_eq_getElem (by omega)
          refine ready_of hs ho hl0 ?_
          intro e he hb
          have := backAll_at hb1 (at1' j0 _ hj0 ho)
          simp only [edgesBack, List.all_eq_true, Nat.zero_add] at this
          have := this e (by simpa using he)
          simp only [hb, Bool.not_true, Bool.false_or] at this
          exact hbelow _ (Nat.lt_of_succ_le (Nat.le_of_ble_eq_true this))
        refine ⟨fun hn => by rw [hn] at hr0; simp at hr0, ?_⟩
        intro i hi
        obtain ⟨hiN, hli, o, ho, hafter⟩ := mem_ready' hs hi
        have him : i < m := by
          rcases Nat.lt_or_ge i m with h' | h'
          · exact h'
          · exfalso
            have hat2 := (at2 i o h' ho).1
            rcases Nat.lt_or_ge m i with h2 | h2
            · obtain ⟨e, he, hon, hb⟩ := hasE_mem (waits1_prev hat2 h2)
              have := hafter e (by simpa using he) hb
              rw [hon, hge (i - 1) (by omega)] at this; cases this
            · have him : i = m := by omega
              subst him
              have := coverDn_has hdc (S := [o.after.toList]) (fun x hx k hk => by
                simp only [List.mem_singleton] at hx
                subst hx
                obtain ⟨e, he, hon, hb⟩ := hasE_mem hk
                rw [← hon]; exact hafter e (by simpa using he) hb) (waits1_all hat2) j0 hj0
              rw [hl0] at this; cases this
        have hol := at1' i o him ho
        obtain ⟨hdn, hst1, hpos, hcase⟩ := hob i o hol
        have hdst : dst i = o.dst := by simp [dst, hol]
        have hafterj : ∀ j, hasE o.after.toList j = true → lf listed j = true := fun j hj => by
          obtain ⟨e, he, hon, hb⟩ := hasE_mem hj
          rw [← hon]; exact hafter e (by simpa using he) hb
        have hhold : ∀ j, j < i → hasE o.after.toList j = true → (∀ v, sp j = .val v → vs j = v) ∧ ∀ d, dst j = some d → a.tmps[d]? = some (vs j) := fun j hj hh => by
          obtain ⟨x, y⟩ := hv j (by omega) (hafterj j hh)
          exact ⟨fun v hs => by rw [hs] at x; exact x, y⟩
        have hav : EnvOk n (av o.after.toList vs (dnOf dst sp i) ++ E0) D a := av_ok ha hhold
        obtain ⟨X, hX1, hXv⟩ := pool_split (sp := sp) (vs := vs) (l := lf listed) (i := i) (k := m) him
        rw [hli] at hX1
        have hcp : lf listed T.c = true → lf listed T.p = true ∧ lf listed T.d = true := fun hcl => by
          have hoc : l1[T.c]? = some l1[T.c] := List.getElem?_eq_getElem (by omega)
          exact ⟨hdc T.c _ hoc hcl T.p ((hob T.c _ hoc).2.2.1 rfl).1, hdc T.c _ hoc hcl T.d ((hob T.c _ hoc).2.2.1 rfl).2⟩
        obtain ⟨Y, hY1, hY2⟩ := T.step vs (lf listed) i (by omega) hdp (by omega) hli (fun e => hafterj T.p (hpos e).1) hcp
        rw [hY1] at hst
        -- what is behind it
        have after_ : ∀ (v : Value) (h'' : PH) (w' : World), le hc h'' → (sp i).holds v h'' → St κ h0 f ((sp i).O v ++ (X ++ (R0 ++ (T.out vs i v ++ (Y ++ R1))))) h'' w' →
            wpAnyIn (fen D) 0 P .any ops (fun e a' w' => e ≠ .outgrown ∧ ∃ s', EnvOk n s'.E s'.D a' ∧ (St κ h0 f s'.R s'.h w' ∧ roOf s'.D = roOf D) ∧ Q e s') fuel (listed.setIfInBounds i true) (a.put o.dst v) w' := by
          intro v h'' w' hle' hho hs'
          have elf : lf (listed.setIfInBounds i true) = fun j => if j = i then true else lf listed j := funext fun j => lf_set (by omega) j
          refine ih (listed.setIfInBounds i true) (a.put o.dst v) w' (fun j => if j = i then v else vs j) h'' ?_ ?_ (by simpa using hs) ?_ (hle.trans hle') ?_ ?_ ?_
          · intro j o' ho' hj k hk
            rw [elf] at hj ⊢
            have hlk : lf listed k = true := by
              by_cases e : j = i
              · subst e
                rw [hol] at ho'
                cases ho'
                exact hafterj k hk
              · simp only [if_neg e] at hj
                exact hdc j o' ho' hj k hk
            by_cases e2 : k = i
            · simp only [if_pos e2]
            · simp only [if_neg e2]; exact hlk
          · have := cntU_set (l := lf listed) hli (k := ops.size) hiN
            rw [elf]; omega
          · intro j hj
            rw [elf]; simp only [if_neg (by omega : ¬ j = i)]; exact hge j hj
          · -- the slots that were known are no one's of the first ones
            have hp := ha.put o.dst v (dOk_lt hdn)
            refine ⟨hp.1, hp.2.1, fun t u hl => ?_⟩
            cases hod : o.dst with
            | none => simp only [Act.put]; exact ha.2.2 t u hl
            | some d =>
              by_cases hdt : d = t
              · subst hdt
                rcases hfr with hfr | hfr
                · rw [freshIn_none hfr (dstsOf_mem hol hod)] at hl; cases hl
                · have hm := dnOf_has (dst := dst) (sp := sp) him
                  rw [hdst, hod] at hm
                  have hsp := ovr_mem hfr hm hl
                  rw [hsp] at hho
                  have hvu : v = u := hho
                  subst hvu
                  simp only [Act.put]
                  rw [Array.getElem?_setIfInBounds_self]
                  have hdl := dOk_lt hdn d hod
                  simp [ha.1, hdl]
              · simp only [Act.put]
                rw [Array.getElem?_setIfInBounds_ne hdt]; exact ha.2.2 t u hl
          · intro j hj hlj
            rw [elf] at hlj
            by_cases e : j = i
            · subst e
              simp only [if_true]
              refine ⟨hho, fun d hd => ?_⟩
              rw [hdst] at hd
              simp only [hd, Act.put]
              rw [Array.getElem?_setIfInBounds_self]
              have := dOk_lt hdn d hd
              simp [ha.1, this]
            · simp only [if_neg e] at hlj ⊢
              obtain ⟨x, y⟩ := hv j hj hlj
              have hstays : (sp j).stays := by
                have hoj : l1[j]? = some l1[j] := List.getElem?_eq_getElem (by omega)
                exact (hob j _ hoj).2.1
              refine ⟨?_, fun d hd => ?_⟩
              · cases hs2 : sp j with
                | val u => rw [hs2] at x; exact x
                | opq A C O => rw [hs2] at x hstays; exact hstays _ _ _ hle' x
              · have hy := y d hd
                cases hod : o.dst with
                | none => simp only [Act.put]; exact hy
                | some d' =>
                  have hoj : l1[j]? = some l1[j] := List.getElem?_eq_getElem (by omega)
                  have hdj : l1[j].dst = some d := by have : dst j = l1[j].dst := by simp [dst, hoj]
                                                      rw [← this]; exact hd
                  have hne : d' ≠ d := noDup_ne hnd hol hoj (Ne.symm e) hod hdj
                  simp only [Act.put]
                  rw [Array.getElem?_setIfInBounds_ne hne]; exact hy
          · refine hs'.perm ?_
            rw [elf, hY2 v, List.append_assoc (T.out vs i v), ← List.append_assoc]
            exact ((hXv v true).symm).append_right _
        rcases hcase with ⟨hip, hic, hsp, hoff⟩ | ⟨hon, hex⟩
        · -- it is not wanted
          have hwant := wanted_of_gd hav (hoff vs)
          unfold wpOpIn
          simp only [ho, hwant, Bool.false_eq_true, if_false]
          refine ⟨fun _ _ => trivial, ?_⟩
          refine after_ undef hc w (le.refl _) (by rw [hsp]; rfl) ?_
          refine hst.perm ?_
          refine (hX1.append_right _).trans ?_
          rw [hsp]; simp [Sp.C, Sp.O, Pair.inn, Pair.out, hip, hic]
        · have hwant := wanted_of_gd hav (hon vs)
          unfold wpOpIn
          simp only [ho, hwant, if_true]
          have hp1 := hX1
          have hfc : fc o.after.toList vs hc (dnOf dst sp i) := fc_of fun j d s hm hh => by
            obtain ⟨hj, _, rfl⟩ := dnOf_mem hm
            exact (hv j (by omega) (hafterj j hh)).1
          have hX2 : (pool sp vs (lf listed) m ++ (R0 ++ ((T.inn vs i ++ Y) ++ R1))).Perm (((sp i).C ++ (T.inn vs i ++ R0)) ++ (X ++ (Y ++ R1))) :=
            (hp1.append_right _).trans (pmA _ _ _ _ _ _)
          have hx := Exec_frame (E' := av o.after.toList vs (dnOf dst sp i) ++ E0) (hex vs hc hle hfc) (SubE.refl _) hX2 (le.refl _)
          refine hx κ h0 f a w hf hav hst _ _ ?_ ?_
          · rintro v R' h'' w' hle' hs' ⟨R1', hh1, rfl, _, hh2, u, hu, hho, hsub⟩
            simp only [Ending.returned.injEq] at hu
            subst hu
            have hho' : (sp i).holds v h'' := by
              cases hs2 : sp i with
              | val u => rw [hs2] at hho; exact hho
              | opq A C O => rw [hs2] at hho hst1; exact hst1 _ _ _ hh2 hho
            refine after_ v h'' w' hle' hho' ?_
            obtain ⟨R2, hR2⟩ := hsub
            refine (hs'.sub (R1 := (sp i).O v ++ (T.out vs i v ++ R0) ++ (X ++ (Y ++ R1))) ⟨R2, ?_⟩).perm (pmB _ _ _ _ _ _)
            refine (hR2.append_right _).trans ?_
            simp only [List.append_assoc]
            refine List.Perm.append_left _ (List.Perm.append_left _ (List.Perm.append_left _ ?_))
            rw [← List.append_assoc Y R1 R2, ← List.append_assoc X (Y ++ R1) R2]
            exact List.perm_append_comm
          · rintro ch R' h'' w' _ _ ⟨R1', hh1, rfl, _, _, u, hu, _⟩
            cases hu
  have hl0 : ∀ j, lf (Array.replicate ops.size false) j = false := fun j => by
    unfold lf
    simp only [Array.getD_eq_getD_getElem?, Array.getElem?_replicate]
    split <;> rfl
  refine key ops.size (Array.replicate ops.size false) a _ (fun _ => undef) h (fun j o _ hj => by rw [hl0] at hj; cases hj) ?_ (by simp) (fun j _ => hl0 j) (le.refl _) ha0 ?_ ?_
  · have : ∀ k, cntU (lf (Array.replicate ops.size false)) k = k := by
      intro k
      induction k with
      | zero => rfl
      | succ k ih => simp [cntU, ih, hl0]
    exact this _
  · intro j _ hj; rw [hl0] at hj; cases hj
  · rw [pool_none (dst := dst) fun j _ => hl0 j]
    have hh : T.hp (fun _ => undef) (lf (Array.replicate ops.size false)) = [] := by simp [Pair.hp, hl0]
    rw [hh]
    exact ((St.perm hR hw).drawn _)
end
section
variable {T : Pair} {P : Program} {n : Nat} {ops : Array Oper} {o : Oper} {E0 : Env} {D : List Deferred} {R : List SL} {h : PH} {K : Done → Prop} {i : Nat} {l : List Oper} {dn : Done}
theorem RGT_nil (k : K dn) : RGT T P n ops E0 D R h K i [] dn := k
/-- What is made: a new variable. -/
theorem RGT_alloc {t : TypeId} {z : Value} {vs0 : List Value} {d : Tmp} (hi : i = T.p) (hpc : Nat.blt T.p T.c = true) (hO : T.O = fun v => [pblk v vs0 t]) (ho : o.op = .alloc t) (hz : zeOf P t = some z) (hv0 : vcO z = some vs0) (hd : o.dst = some d) (hn : Nat.blt d n = true) (hg : ∀ vs, gd ops (av o.after.toList vs dn ++ E0) o = some true)
    (k : RGT T P n ops E0 D R h K (i + 1) l ((i, some d, .opq (fun v _ => ∃ b, v = .pointer (some ⟨b, 0, none⟩)) [] fun _ => []) :: dn)) : RGT T P n ops E0 D R h K i (o :: l) dn := by
  have hv := vcO_eq hv0
  have hpc : T.p < T.c := by simpa [Nat.blt_eq] using hpc
  have hic : ¬ i = T.c := by omega
  refine ⟨.opq (fun v _ => ∃ b, v = .pointer (some ⟨b, 0, none⟩)) [] fun _ => [], ⟨by rw [hd]; exact hn, fun _ _ _ _ x => x, fun e => absurd e hic, .inr ⟨hg, fun vs h' _ _ => ?_⟩⟩, by rw [hd]; exact k⟩
  have hinn : T.inn vs i = [] := by simp [Pair.inn, hic]
  have hout : ∀ v, T.out vs i v = [pblk v vs0 t] := fun v => by simp [Pair.out, hi, hO]
  rw [hinn]
  refine (Exec.mono (K := Ret fun u R' h' => ∃ b, u = .pointer (some ⟨b, 0, none⟩) ∧ R' = pblk u vs0 t :: R ∧ True) ?_ ?_)
  · intro κ h0 f a w hf ha hw next Q h1 h2
    refine X_alloc (P := P) (n := n) (R := R) ho hz hv κ h0 f a w hf ha hw next Q ?_ ?_
    · rintro v R' h'' w' hle hs ⟨b, rfl, rfl, rfl⟩
      refine h1 _ (pblk (.pointer (some ⟨b, 0, none⟩)) vs0 t :: R) _ w' hle ?_ ⟨b, rfl, rfl, trivial⟩
      obtain ⟨x, g, kk, e, ⟨g1, g2, eg, hd', hg1, hg2⟩, rest⟩ := hs
      exact ⟨x, g, kk, e, ⟨g1, g2, eg, hd', ⟨b, rfl, hg1⟩, hg2⟩, rest⟩
    · rintro ch R' h'' w' _ _ hx; exact hx.elim
  · rintro e R' h'' _ hA
    cases e with
    | returned v => obtain ⟨b, rfl, rfl, _⟩ := hA; exact ⟨_, rfl, ⟨b, rfl⟩, by rw [hout]; exact SubR.refl _⟩
    | panicked ch => exact hA.elim
    | outgrown => exact hA.elim
/-- A variable, of whose cells so much is known. -/
def gblk (v : Value) (G : List Value → Prop) (t : TypeId) : SL := fun g => ∃ b cs, v = .pointer (some ⟨b, 0, none⟩) ∧ G cs ∧ blk b cs t g
theorem UpdE.gblk {v : Value} {G : List Value → Prop} {t : TypeId} {R : List SL} {h : PH} (i : Nat) (hi : R[i]? = some (Par.gblk v G t)) : UpdE R h fun R' h' => h' = h ∧ ∃ b cs, v = .pointer (some ⟨b, 0, none⟩) ∧ G cs ∧ R' = R.set i (blk b cs t) := fun κ h0 f w hf s => by
  obtain ⟨a1, g, k, eh, hr, rest⟩ := s
  obtain ⟨x, y, rfl, hd, ⟨b, cs, h1, h2, h3⟩, hset, her⟩ := stars_get hi hr
  exact ⟨_, h, le.refl _, ⟨rfl, b, cs, h1, h2, rfl⟩, a1, un x y, k, eh, hset _ _ h3 hd, rest⟩
/-- What takes it: a store of the whole. -/
theorem RGT_store {x y : Operand} {t : TypeId} {sz : Nat} {vs0 : List Value} {u : (Nat → Value) → Value} {G : Value → List Value → Prop} (hi : i = T.c) (hpc : Nat.blt T.p T.c = true) (hO : T.O = fun v => [pblk v vs0 t]) (hO2 : T.O2 = fun vp vd => [Par.gblk vp (G vd) t])
    (hep : hasE o.after.toList T.p = true) (hed : hasE o.after.toList T.d = true) (ho : o.op = .store t x y) (hx : ∀ vs, ev (av o.after.toList vs dn ++ E0) x = some (vs T.p)) (hy : ∀ vs, ev (av o.after.toList vs dn ++ E0) y = some (u vs))
    (hval : ∀ vs h', le h h' → fc o.after.toList vs h' dn → ∃ cs, vc (u vs) = cs ∧ cs.length = sz ∧ cs.all flat = true ∧ G (vs T.d) cs) (hs : szOf P t = some sz) (hl0 : vs0.length = sz) (hd : o.dst = none) (hg : ∀ vs, gd ops (av o.after.toList vs dn ++ E0) o = some true)
    (k : RGT T P n ops E0 D R h K (i + 1) l ((i, none, .opq (fun _ _ => True) [] fun _ => []) :: dn)) : RGT T P n ops E0 D R h K i (o :: l) dn := by
  have hpc : T.p < T.c := by simpa [Nat.blt_eq] using hpc
  have hip : ¬ i = T.p := by omega
  refine ⟨.opq (fun _ _ => True) [] fun _ => [], ⟨by rw [hd]; rfl, fun _ _ _ _ _ => trivial, fun _ => ⟨hep, hed⟩, .inr ⟨hg, fun vs h' hle hf => ?_⟩⟩, by rw [hd]; exact k⟩
  obtain ⟨cs, c1, c2, c3, c4⟩ := hval vs h' hle hf
  have hinn : T.inn vs i = [pblk (vs T.p) vs0 t] := by simp [Pair.inn, hi, hO]
  have hout : ∀ v, T.out vs i v = [Par.gblk (vs T.p) (G (vs T.d)) t] := fun v => by
    have : ¬ T.c = T.p := by omega
    simp [Pair.out, hi, hO2, this]
  rw [hinn]
  intro κ h0 f a w hf0 ha hw next Q k1 k2
  obtain ⟨R', h9, hl9, ⟨rfl, b, hvb, rfl⟩, s'⟩ := UpdE.pblk (R := Sp.C (.opq (fun _ _ => True) [] fun _ => []) ++ ([pblk (vs T.p) vs0 t] ++ R)) (h := h') 0 rfl κ h0 f w hf0 hw
  have hxb := hx vs
  rw [hvb] at hxb
  refine X_store (P := P) (n := n) (R := blk b vs0 t :: R) (i := 0) (off := 0) (t0 := t) (c := vs0) (sz := sz) ho hxb (hy vs) rfl hs c1 c2 c3 (by omega) κ h0 f a w hf0 ha s' next Q ?_ ?_
  · rintro v R' h'' w' hle' hs' ⟨rfl, rfl⟩
    have hwr : wr vs0 0 cs = cs := by
      apply List.ext_getElem?
      intro j
      rw [wr_get (by omega)]
      by_cases hj : j < cs.length
      · rw [if_pos ⟨Nat.zero_le _, by omega⟩, Nat.sub_zero]
      · rw [if_neg (by omega), List.getElem?_eq_none (by omega), List.getElem?_eq_none (by omega)]
    refine k1 v (Par.gblk (vs T.p) (G (vs T.d)) t :: R) _ w' hle' ?_ ⟨v, rfl, trivial, by rw [hout]; exact SubR.refl _⟩
    have h5 := hs'.setObj (i := 0) (r := blk b (wr vs0 0 cs) t) rfl (r' := Par.gblk (vs T.p) (G (vs T.d)) t) (fun g hg => ⟨b, cs, hvb, c4, by rw [← hwr]; exact hg⟩)
    exact h5
  · rintro ch R' h'' w' _ _ hx'; exact hx'.elim
end
end Go.Par

/- Engine: a store of what is known, in a region that draws. It speaks of no program. -/
namespace Go.Par
open Go PH
theorem SubR_pick {R R1 : List SL} {r : SL} (i : Nat) (hi : R[i]? = some r) (h : SubR (R.eraseIdx i) R1) : SubR R (r :: R1) := (SubR.of_perm (perm_front i hi)).trans (SubR.cons r h)
section
variable {P : Program} {n : Nat} {ops : Array Oper} {l : List Oper} {o : Oper} {E0 : Env} {D : List Deferred} {R : List SL} {h : PH} {K : Done → Prop} {i : Nat} {dn : Done}
theorem RG_storeC {x y : Operand} {t t0 : TypeId} {b off sz : Nat} {c c' vs0 : List Value} {v : Value} (ho : o.op = .store t x y) (hx : ∀ vs, ev (av o.after.toList vs dn ++ E0) x = some (.pointer (some ⟨b, off, none⟩))) (hy : ∀ vs, ev (av o.after.toList vs dn ++ E0) y = some v)
    (hs : szOf P t = some sz) (hv : vcO v = some vs0) (hl : Nat.beq vs0.length sz = true) (hf : vs0.all flat = true) (hc : Nat.ble (off + sz) c.length = true) (hd : o.dst = none) (hg : ∀ vs, gd ops (av o.after.toList vs dn ++ E0) o = some true) (hc' : wrO c off vs0 = some c')
    (k : RG P n ops E0 D R h K (i + 1) l ((i, none, .opq (fun _ _ => True) [blk b c t0] fun _ => [blk b c' t0]) :: dn)) : RG P n ops E0 D R h K i (o :: l) dn := by
  refine ⟨.opq (fun _ _ => True) [blk b c t0] fun _ => [blk b c' t0], ⟨by rw [hd]; rfl, fun _ _ _ _ _ => trivial, .inr ⟨hg, fun vs h' _ _ => ?_⟩⟩, by rw [hd]; exact k⟩
  refine (X_store (R := [blk b c t0] ++ R) (i := 0) (t0 := t0) ho (hx vs) (hy vs) rfl hs (vcO_eq hv) (Nat.eq_of_beq_eq_true hl) hf (Nat.le_of_ble_eq_true hc)).mono ?_
  rintro e R' h'' - hA
  have hw := (wrO_eq hc').1
  cases e with
  | returned v' => exact ⟨v', rfl, trivial, by rw [hA.1, ← hw]; exact SubR.refl _⟩
  | panicked ch => exact hA.elim
  | outgrown => exact hA.elim
end
end Go.Par

/- Engine: elements of owned rows, where it is a fact of each element how many cells it has. It speaks of no program. -/
namespace Go.Par
open Go PH
def encS {α : Type} (enc : α → List Value) (sz : Nat) (x : {x : α // (enc x).length = sz}) : List Value := enc x.1
theorem decS_ex {α : Type} {enc : α → List Value} {sz : Nat} {x : α} (hx : (enc x).length = sz) : ∃ D : Dec (encS enc sz) sz, D.dec (enc x) = some ⟨x, hx⟩ := by
  refine ⟨{ len := fun x => x.2, dec := fun c => open Classical in if c = enc x then some ⟨x, hx⟩ else none, ok := fun c y h => ?_ }, if_pos rfl⟩
  split at h
  · rename_i hc; cases h; exact hc.symm
  · cases h
theorem decS_any {α : Type} (enc : α → List Value) (sz : Nat) : ∃ _ : Dec (encS enc sz) sz, True := ⟨{ len := fun x => x.2, dec := fun _ => none, ok := fun c y h => by cases h }, trivial⟩
def atS {α : Type} (enc : α → List Value) (sz : Nat) (L : List α) (hL : ∀ x ∈ L, (enc x).length = sz) : List {x : α // (enc x).length = sz} := L.attachWith _ hL
theorem atS_len {α : Type} {enc : α → List Value} {sz : Nat} {L : List α} (hL : ∀ x ∈ L, (enc x).length = sz) : (atS enc sz L hL).length = L.length := by simp [atS]
theorem atS_map {α : Type} {enc : α → List Value} {sz : Nat} {L : List α} (hL : ∀ x ∈ L, (enc x).length = sz) : (atS enc sz L hL).map (encS enc sz) = L.map enc := by
  have : encS enc sz = enc ∘ Subtype.val := rfl
  rw [this, ← List.map_map]
  simp [atS]
theorem atS_flat {α : Type} {enc : α → List Value} {sz : Nat} {L : List α} (hL : ∀ x ∈ L, (enc x).length = sz) : (atS enc sz L hL).flatMap (encS enc sz) = L.flatMap enc := by
  rw [List.flatMap_def, List.flatMap_def, atS_map]
theorem atS_row {α : Type} {enc : α → List Value} {sz : Nat} {L : List α} (hL : ∀ x ∈ L, (enc x).length = sz) (v : Value) (e : TypeId) : rowL enc v e sz L = rowL (encS enc sz) v e sz (atS enc sz L hL) := by
  unfold rowL; rw [atS_len, atS_flat]
theorem atS_get {α : Type} {enc : α → List Value} {sz : Nat} {L : List α} (hL : ∀ x ∈ L, (enc x).length = sz) (j : Nat) (hj : j < L.length) : encS enc sz ((atS enc sz L hL)[j]'(by rw [atS_len]; exact hj)) = enc L[j] := by
  simp [encS, atS]
section
variable {P : Program} {n : Nat} {ops : Array Oper} {l : List Oper} {o : Oper} {E : Env} {D : List Deferred} {R : List SL} {h : PH} {K : S → Prop} {Q : Exit → S → Prop}
variable {α : Type} {enc : α → List Value} {sz : Nat} {L : List α} {m b cap : Nat} {e : TypeId}
theorem X_loadA_spotL {x : Operand} {t : TypeId} {j q i k : Nat} {vs : List Value} (hL : ∀ x ∈ L, (enc x).length = sz) (ho : o.op = .load t x) (hx : ev E x = some (.pointer (some ⟨b, spot j sz q, none⟩))) (hi : R[i]? = some (rowL enc (.slice (some ⟨b, 0, none⟩) m cap) e sz L)) (hm : m = L.length)
    (ht : isA P t = some true) (hs : szOf P t = some k) (hk : Nat.blt 0 k = true) (hj : j < L.length) (hv : rd (enc L[j]) q k = some vs) : Exec P n o ⟨E, D, R, h⟩ (Is (.agg vs.toArray) R h) := by
  rw [atS_row hL] at hi
  obtain ⟨_, -⟩ := decS_any enc sz
  exact X_loadA_spot (enc := encS enc sz) ho hx hi (by rw [atS_len]; exact hm) ht hs hk (by rw [atS_len]; exact hj) (by rw [atS_get hL j hj]; exact hv)
theorem WL_store_spotL {x y : Operand} {t : TypeId} {j q i k : Nat} {vs : List Value} {v : Value} {x' : α} {R' : List SL} (hL : ∀ x ∈ L, (enc x).length = sz) (hx'l : (enc x').length = sz) (ho : o.op = .store t x y) (hx : ev E x = some (.pointer (some ⟨b, spot j sz q, none⟩))) (hy : ev E y = some v) (hi : R[i]? = some (rowL enc (.slice (some ⟨b, 0, none⟩) m cap) e sz L)) (hm : m = L.length)
    (hs : szOf P t = some k) (hv : vcO v = some vs) (hl : Nat.beq vs.length k = true) (hf : vs.all flat = true) (hq : q + k ≤ sz) (hj : j < L.length) (hd : wr (enc L[j]) q vs = enc x') (hdst : o.dst = none) (hg : gd ops E o = some true)
    (hR : setR R i (rowL enc (.slice (some ⟨b, 0, none⟩) m cap) e sz (L.set j x')) = some R')
    (kk : WL P n ops l ⟨E, D, R', h⟩ K Q) : WL P n ops (o :: l) ⟨E, D, R, h⟩ K Q := by
  rw [atS_row hL] at hi
  obtain ⟨DD, hy1⟩ := decS_ex hx'l
  have hX := X_store_spot (P := P) (n := n) (D := D) (h := h) (enc := encS enc sz) ho hx hy hi (by rw [atS_len]; exact hm) hs hv hl hf (Nat.ble_eq_true_of_le hq) (by rw [atS_len]; exact hj) (by rw [atS_get hL j hj, hd]; exact hy1)
  refine WL_do hX hdst hg fun _ _ _ _ ⟨e1, e2⟩ => ?_
  subst e1; subst e2
  have h1 : rowL (encS enc sz) (.slice (some ⟨b, 0, none⟩) m cap) e sz ((atS enc sz L hL).set j ⟨x', hx'l⟩) = rowL enc (.slice (some ⟨b, 0, none⟩) m cap) e sz (L.set j x') := by
    have h2 : ((atS enc sz L hL).set j ⟨x', hx'l⟩).flatMap (encS enc sz) = (L.set j x').flatMap enc := by
      rw [List.flatMap_def, List.flatMap_def, List.map_set, List.map_set, atS_map]; rfl
    unfold rowL
    rw [h2, List.length_set, List.length_set, atS_len]
  rw [h1, setR_eq hR]
  exact kk
theorem X_index_arrin {x y : Operand} {t e : TypeId} {b len sz s j a a' : Nat} {k : IntKind} {i : Int} (ho : o.op = .indexAddr t x y) (ht : arOf P t = some (len, e)) (hs : szOf P e = some s)
    (hx : ev E x = some (.pointer (some ⟨b, spot j sz a, none⟩))) (hy : ev E y = some (.int k i)) (h0 : 0 ≤ i) (h1 : i < len) (he : a + i.toNat * s = a') :
    Exec P n o ⟨E, D, R, h⟩ (Is (.pointer (some ⟨b, spot j sz a', none⟩)) R h) := X_index_arr ho ht hs hx hy h0 h1 (by rw [spot_eq, spot_eq, ← he]; omega)
end
end Go.Par

/- Engine: an element of an array that is known by its address. It speaks of no program. -/
namespace Go.Par
open Go PH
section
variable {P : Program} {n : Nat} {ops : Array Oper} {l : List Oper} {o : Oper} {E : Env} {D : List Deferred} {R : List SL} {h : PH} {K : S → Prop} {Q : Exit → S → Prop}
theorem At.arrIdx {p : Value} {cs : List Value} (hp : At h p cs) (o' : Nat) : ∃ p', At h p' (cs.drop o') ∧ ∀ {P : Program} {n : Nat} {o : Oper} {E : Env} {D : List Deferred} {R : List SL} {h1 : PH} {x y : Operand} {t e : TypeId} {len sz : Nat} {k : IntKind} {j : Int},
    o.op = .indexAddr t x y → ev E x = some p → arOf P t = some (len, e) → szOf P e = some sz → ev E y = some (.int k j) → 0 ≤ j → j < len → j.toNat * sz = o' → Exec P n o ⟨E, D, R, h1⟩ (Is p' R h1) := by
  obtain ⟨b, off, c, t, fr, rfl, hb, hc⟩ := hp
  refine ⟨.pointer (some ⟨b, off + o', none⟩), ⟨b, off + o', c, t, fr, rfl, hb, fun j hj => ?_⟩, fun ho hx ht hs hy h0 h1 he => X_index_arr ho ht hs hx hy h0 h1 (by rw [he])⟩
  simp only [List.length_drop] at hj
  rw [Nat.add_assoc, hc (o' + j) (by omega), List.getElem?_drop]
theorem WL_index_arr_at {x y : Operand} {t e : TypeId} {len sz o' : Nat} {p : Value} {cs : List Value} {k : IntKind} {j : Int} {d : Tmp} (ho : o.op = .indexAddr t x y) (hx : ev E x = some p) (hp : At h p cs) (ht : arOf P t = some (len, e)) (hs : szOf P e = some sz) (hy : ev E y = some (.int k j)) (h0 : 0 ≤ j) (h1 : j < len) (he : j.toNat * sz = o')
    (hd : o.dst = some d) (hg : gd ops E o = some true) (hn : Nat.blt d n = true)
    (kk : ∀ p', At h p' (cs.drop o') → WL P n ops l ⟨(d, p') :: E, D, R, h⟩ K Q) : WL P n ops (o :: l) ⟨E, D, R, h⟩ K Q := by
  obtain ⟨p', h1', h2⟩ := hp.arrIdx o'
  exact WL_is (h2 ho hx ht hs hy h0 h1 he) hd hg hn (kk p' h1')
end
end Go.Par
