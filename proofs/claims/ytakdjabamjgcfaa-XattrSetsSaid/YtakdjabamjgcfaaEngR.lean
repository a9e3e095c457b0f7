/- Engine: a range over a function. It speaks of no program. -/
import Derived.Test.YtakdjabamjgcfaaEngJ
import Derived.RangeFuncRecord
namespace Go.Par
open Go PH
/-- THE CONTRACT of a call of a loop's yield. -/
def DoesY (P : Program) (l : Nat) (args : List Value) (R : List SL) (h : PH) (K : Post) : Prop :=
  ∀ (f' : PH) (w : World), le h f' → St w h f' R h w →
    ∃ fn tmps assign body, (Instr.yield l args.toArray).run P w = .ok (.round l fn tmps assign body) w ∧
      RoundIn Fence.wide 0 P l fn tmps assign body w fun e w' => e ≠ .outgrown ∧ ∃ R' h', le h h' ∧ St w h f' R' h' w' ∧ K e R' h'
theorem roundIn_fen {D : List Deferred} {P : Program} {l : Nat} {fn : FuncId} {tmps : Array Value} {assign body : Code} {w : World} {R : Ending → World → Prop} (h : RoundIn Fence.wide 0 P l fn tmps assign body w R) : RoundIn (fen D) 0 P l fn tmps assign body w R := h
section
variable {P : Program} {n : Nat} {ops : Array Oper} {l : List Oper} {o : Oper} {E : Env} {D : List Deferred} {R : List SL} {h : PH} {K : S → Prop} {Q : Exit → S → Prop}
/-- A call of a loop's yield. -/
theorem X_yield {fo : Operand} {xs : Array Operand} {tys : Array TypeId} {lp : Nat} {args : List Value} {R1 R2 : List SL} {A : Post}
    (ho : o.op = .call ⟨.value fo, xs, tys⟩) (hfo : ev E fo = some (.func (.yield lp) #[] #[])) (hxs : evs E xs.toList = some args) (hR : R.Perm (R1 ++ R2)) (hF : DoesY P lp args R1 h A) :
    Exec P n o ⟨E, D, R, h⟩ (fun e R' h' => ∃ R1', R' = R1' ++ R2 ∧ A e R1' h') := by
  intro κ h0 f0 a w hf ha hw next Q h1 h2
  obtain ⟨f', hle, hs, hback⟩ := (hw.perm hR).lend hf
  obtain ⟨fn, tmps, assign, body, hy, hr⟩ := hF f' w hle hs
  have e1 : xs.map a.eval = args.toArray := map_arr (ha.evs hxs)
  have hrun : (execOp a.eval o).run P w = .ok (.round lp fn tmps assign body) w := by
    simp only [execOp, ho, resolve, Deferred.ofValue, ha.ev hfo, e1, Sem.run_bind, Sem.run_pure, Result.andThen_ok, invoke, Array.empty_append, hy]
  refine ⟨fun _ _ => trivial, ?_⟩
  rw [Oper.semAt_eq _ _ _ (by rw [ho]; intro c hc; cases hc), hrun, Oper.uponIn_round]
  refine ⟨fen_depth, roundIn_fen (hr.mono ?_)⟩
  rintro e w' ⟨he, R', h', hle', hs', hA⟩
  cases e with
  | returned v => exact h1 v _ _ _ hle' (hback _ _ _ hle' hs') ⟨R', rfl, hA⟩
  | panicked ch => exact h2 ch _ _ _ hle' (hback _ _ _ hle' hs') ⟨R', rfl, hA⟩
  | outgrown => exact absurd rfl he
theorem WL_yield (R1 R2 : List SL) {d : Tmp} {fo : Operand} {xs : Array Operand} {tys : Array TypeId} {lp : Nat} {args : List Value} {A : Value → List SL → PH → Prop}
    (ho : o.op = .call ⟨.value fo, xs, tys⟩) (hfo : ev E fo = some (.func (.yield lp) #[] #[])) (hxs : evs E xs.toList = some args) (hd : o.dst = some d) (hg : gd ops E o = some true) (hn : Nat.blt d n = true) (hR : R.Perm (R1 ++ R2)) (hF : DoesY P lp args R1 h (Ret A))
    (k : ∀ v R' h', le h h' → A v R' h' → WL P n ops l ⟨(d, v) :: E, D, R' ++ R2, h'⟩ K Q) : WL P n ops (o :: l) ⟨E, D, R, h⟩ K Q := by
  refine WL_step hg (by rw [hd]; exact dOk_lt (x := some d) hn) ((X_yield ho hfo hxs hR hF).mono ?_)
  rintro e R' h' hle ⟨R1', rfl, hA⟩
  cases e with
  | returned v => simp only [Nx, hd]; exact k v R1' h' hle hA
  | panicked ch => exact hA.elim
  | outgrown => exact hA.elim
end
/-- How a round may be left. -/
def Rnd {X : Type} (RI : X → List SL) (on : X → Prop) (out : Code → X → Prop) : Exit → S → Prop
  | .normal, s => ∃ x, SubR s.R (RI x) ∧ on x
  | .ret, s => ∃ x, SubR s.R (RI x) ∧ out .ret x
  | .exit i, s => ∃ x, SubR s.R (RI x) ∧ out (.exit i) x
  | .goto t, s => ∃ x, SubR s.R (RI x) ∧ out (.goto t) x
  | _, _ => False
/-- Where a jump leads to. -/
def QJ (Q : Exit → S → Prop) : Code → S → Prop
  | .ret, s => Q .ret s
  | .exit i, s => Q (.exit i) s
  | .goto t, s => Q (.goto t) s
  | _, _ => False
/-- THE CONTRACT of what is ranged over: it hands on these, one behind the other. -/
def Iter (P : Program) (gf : FuncId) (lb : List Value) (RC : List SL) (N : Nat) (args : Nat → List Value) (h : PH) : Prop :=
  ∀ (l : Nat) (T : Nat → SL) (Tx : Nat → SL), (∀ i h', i < N → le h h' → DoesY P l (args i) [T i] h' (Ret fun v R' _ => (v = .bool true ∧ R' = [T (i + 1)]) ∨ (v = .bool false ∧ R' = [Tx i]))) →
    Does P gf (.func (.yield l) #[] #[] :: lb) (T 0 :: RC) h (Ret fun _ R' _ => (∃ R2, R' = T N :: R2) ∨ ∃ i, i < N ∧ ∃ R2, R' = Tx i :: R2)
def putL : List Tmp → List Value → Env → Env
  | t :: ts, v :: vs, E => putL ts vs ((t, v) :: E)
  | _, _, E => E
theorem putL_ok {n : Nat} {D : List Deferred} : ∀ {ts : List Tmp} {vs : List Value} {E : Env} {a : Array Value}, (∀ t ∈ ts, t < n) → EnvOk n E D ⟨a, dsOf D⟩ → EnvOk n (putL ts vs E) D ⟨(ts.zip vs).foldl (fun tm (t, v) => tm.setIfInBounds t v) a, dsOf D⟩
  | [], _, _, _, _, h => h
  | _ :: _, [], _, _, _, h => h
  | t :: ts, v :: vs, E, a, hn, h => by
    simp only [putL, List.zip_cons_cons, List.foldl_cons]
    refine putL_ok (fun u hu => hn u (List.mem_cons_of_mem _ hu)) ?_
    exact h.put (some t) v (fun d hd => by cases hd; exact hn t List.mem_cons_self)
/-- The mark of an outermost loop. -/
def mkd (b : Nat) : Deferred := { target := .collected b, args := #[] }
def lrec (fn : FuncId) (tmps : Array Value) (ps : Array Tmp) (assign body : Code) (b : Nat) (st : LoopState) (pe : Option Code) : Loop := { state := st, pending := pe, fn, tmps, params := ps, assign, body, defers := b }
theorem St.wkn {κ : World} {h0 f : PH} {R R' : List SL} {h : PH} {w : World} (H : ∀ g, stars R g → stars R' g) (s : St κ h0 f R h w) : St κ h0 f R' h w := by
  obtain ⟨a, g, k, e, hr, rest⟩ := s
  exact ⟨a, g, k, e, H g hr, rest⟩
theorem St.exs {X : Type} {κ : World} {h0 f : PH} {R : List SL} {R' : X → List SL} {p : X → Prop} {h : PH} {w : World} (H : ∀ g, stars R g → ∃ x, p x ∧ stars (R' x) g) (s : St κ h0 f R h w) : ∃ x, p x ∧ St κ h0 f (R' x) h w := by
  obtain ⟨a, g, k, e, hr, rest⟩ := s
  obtain ⟨x, hp, hx⟩ := H g hr
  exact ⟨x, hp, a, g, k, e, hx, rest⟩
/-- Some resources as one. -/
def pack {X : Type} (RI : X → List SL) (p : X → Prop) : SL := fun g => ∃ x, p x ∧ stars (RI x) g
theorem St.pack {X : Type} {RI : X → List SL} {p : X → Prop} {κ : World} {h0 f : PH} {R : List SL} {h : PH} {w : World} (x : X) (hx : p x) (s : St κ h0 f (RI x ++ R) h w) : St κ h0 f (Par.pack RI p :: R) h w :=
  s.wkn fun g hg => by
    obtain ⟨a, b, e, hd, ha, hb⟩ := stars_append.1 hg
    exact ⟨a, b, e, hd, ⟨x, hx, ha⟩, hb⟩
theorem St.unpack {X : Type} {RI : X → List SL} {p : X → Prop} {κ : World} {h0 f : PH} {R : List SL} {h : PH} {w : World} (s : St κ h0 f (Par.pack RI p :: R) h w) : ∃ x, p x ∧ St κ h0 f (RI x ++ R) h w :=
  s.exs fun g hg => by
    obtain ⟨a, b, e, hd, ⟨x, hx, ha⟩, hb⟩ := hg
    exact ⟨x, hx, stars_append.2 ⟨a, b, e, hd, ha, hb⟩⟩
theorem St.putObj {κ : World} {h0 f : PH} {R : List SL} {h : PH} {w : World} {l : Nat} {o : Obj} (o' : Obj) (s : St κ h0 f (obj l o :: R) h w) : St κ h0 f (obj l o' :: R) h (w.putObj l o') := by
  have hb := s.obj_at (i := 0) rfl
  have hl : l < w.heap.size := (Array.getElem?_eq_some_iff.1 hb).1
  exact s.turn (i := 0) (o' := o') rfl (by simp) rfl rfl rfl (World.putObj_heap_same hl) (fun b' hne => World.putObj_heap_other hne)
theorem back_sub {RI R2 : List SL} {d : Nat} {o : Obj} (l : Nat) (R3 : List SL) : SubR ((obj l o :: RI) ++ (R3 ++ (obj d (.deferred (some [])) :: R2))) (RI ++ (obj d (.deferred (some [])) :: R2)) := by
  simp only [List.cons_append]
  refine SubR.skip _ ?_
  refine ⟨R3, ?_⟩
  rw [List.append_assoc]
  refine List.Perm.append_left _ ?_
  exact List.perm_append_comm
section
variable {P : Program} {n : Nat} {E : Env} {D : List Deferred} {R : List SL} {h : PH} {Q : Exit → S → Prop}
set_option maxHeartbeats 1000000 in
/-- THE RULE for a range over a function, an outermost one. -/
theorem W_rangeF {X : Type} {g : Operand} {ps : Array Tmp} {assign body : Code} {gf : FuncId} {gn : Func} {lb : List Value} {RC R2 : List SL} {N : Nat} {args : Nat → List Value} (RI : X → List SL) (p : Nat → X → Prop) (px : Nat → Code → X → Prop) (x0 : X)
    (hg : ev E g = some (.func (.func gf) #[] lb.toArray)) (hfn : P.funcs[gf]? = some gn) (hc : callable gn = true) (hps : ∀ t ∈ ps.toList, t < n) (hal : ∀ i, (args i).length = ps.size)
    (hro : roOf D = none) (hrm : ∀ b, roOf (mkd b :: D) = none) (hR : R.Perm (RI x0 ++ (RC ++ R2))) (hp0 : p 0 x0) (hit : ∀ h', le h h' → Iter P gf lb RC N args h')
    (hround : ∀ l i x h', i < N → le h h' → p i x → W P n assign ⟨putL ps.toList (args i) E, [rmk l], RI x, h'⟩ (Then (fun s' => W P n body s' (Rnd RI (p (i + 1)) (px i))) (fun _ _ => False)))
    (hdone : ∀ b x h', le h h' → p N x → Q .normal ⟨E, mkd b :: D, RI x ++ (obj b (.deferred (some [])) :: R2), h'⟩)
    (hstop : ∀ b i c x h', le h h' → i < N → px i c x → QJ Q c ⟨E, mkd b :: D, RI x ++ (obj b (.deferred (some [])) :: R2), h'⟩) :
    W P n (.rangeFunc g ps assign body) ⟨E, D, R, h⟩ Q := by
  intro κ h0 f a w hf ha hw
  have hpx : ∀ i c x, i < N → px i c x → c = .ret ∨ (∃ j, c = .exit j) ∨ ∃ t, c = .goto t := fun i c x hi hx => by
    have := hstop 0 i c x h (le.refl _) hi hx
    cases c with
    | ret => exact .inl rfl
    | exit j => exact .inr (.inl ⟨j, rfl⟩)
    | goto t => exact .inr (.inr ⟨t, rfl⟩)
    | _ => exact this.elim
  refine wpIn_rangeFunc ?_
  intro fn _
  have hro' : (fen D).round = none := hro
  simp only [hro']
  obtain ⟨b, hb⟩ : ∃ b, b = w.heap.size := ⟨_, rfl⟩
  obtain ⟨rec, hrec⟩ : ∃ rec : LoopState → Option Code → Loop, rec = lrec fn a.tmps ps assign body b := ⟨_, rfl⟩
  have hent := run_enterLoop_outer (P := P) (w := w) fn a.tmps ps assign body
  obtain ⟨w1, hw1⟩ : ∃ w1, w1 = (w.alloc (.deferred (some []))).alloc (.loop (rec .ready none)) := ⟨_, rfl⟩
  have s1 : St κ h0 f (obj (b + 1) (.loop (rec .ready none)) :: obj b (.deferred (some [])) :: R) h w1 := by
    have t1 := hw.new (.deferred (some []))
    have t2 := t1.new (.loop (rec .ready none))
    have e : (w.heap.push (.deferred (some []))).size = b + 1 := by simp [hb]
    simp only [e] at t2
    rw [← hb] at t2
    rw [hw1]; exact t2
  refine ⟨b + 1, [mkd b], w1, { target := .fn (.func gf) lb.toArray, args := #[.func (.yield (b + 1)) #[] #[]] }, w1, gf, (.func (.yield (b + 1)) #[] #[] :: lb).toArray, w1, ?_, ?_, fun _ _ => trivial, ?_, fen_depth, ?_⟩
  · rw [hent, hw1, hrec, hb]; rfl
  · have := ha.ev hg
    have e2 : a.eval (.const (.func (.yield (b + 1)) #[] #[])) = .func (.yield (b + 1)) #[] #[] := rfl
    simp [resolve, Deferred.ofValue, this, e2]
  · simp only [callable, Bool.and_eq_true, Bool.not_eq_true'] at hc
    have hbn : gn.body.isNone = false := by cases hh : gn.body <;> simp_all
    have hnm : (gn.name == "runtime.NumGoroutine") = false := hc.2
    have ea : (#[.func (.yield (b + 1)) #[] #[]] : Array Value) ++ lb.toArray = (.func (.yield (b + 1)) #[] #[] :: lb).toArray := by simp
    simp only [invoke, callFunc, Sem.run_bind, Sem.run_pure, Result.andThen_ok, run_program, hfn, hnm, hbn, ea, Bool.false_eq_true, if_false]
  -- the resources, as the loop sees them
  have hT : ∀ (st : LoopState) (pe : Option Code) (q : X → Prop), True := fun _ _ _ => trivial
  clear hT
  obtain ⟨T, hTe⟩ : ∃ T : Nat → SL, T = fun i => pack (fun x => obj (b + 1) (.loop (rec .ready none)) :: RI x) (p i) := ⟨_, rfl⟩
  obtain ⟨Tx, hTxe⟩ : ∃ Tx : Nat → SL, Tx = fun i => pack (fun cx : Code × X => obj (b + 1) (.loop (rec .done (some cx.1))) :: RI cx.2) (fun cx => px i cx.1 cx.2) := ⟨_, rfl⟩
  have s2 : St κ h0 f ((T 0 :: RC) ++ (obj b (.deferred (some [])) :: R2)) h w1 := by
    rw [hTe]
    have hperm : (obj b (.deferred (some [])) :: R).Perm (RI x0 ++ (RC ++ (obj b (.deferred (some [])) :: R2))) := by
      refine (List.Perm.cons _ hR).trans ?_
      rw [← List.append_assoc, ← List.append_assoc]
      exact List.perm_middle.symm
    exact St.pack (RI := fun x => obj (b + 1) (.loop (rec .ready none)) :: RI x) x0 hp0 (s1.perm (List.Perm.cons _ hperm))
  obtain ⟨f1, hle1, hs1, hback⟩ := s2.lend hf
  -- the rounds
  have hrounds : ∀ i h', i < N → le h h' → DoesY P (b + 1) (args i) [T i] h' (Ret fun v R' _ => (v = .bool true ∧ R' = [T (i + 1)]) ∨ (v = .bool false ∧ R' = [Tx i])) := by
    intro i h' hi hle f' w' hf' hs
    rw [hTe] at hs
    obtain ⟨x, hx, hs⟩ := St.unpack hs
    have hl := hs.obj_at (i := 0) rfl
    have hy := run_yield (P := P) (args := (args i).toArray) hl (by simp [hrec, lrec, hal i])
    refine ⟨_, _, _, _, hy, ?_⟩
    obtain ⟨f'', hle'', hst, hbk⟩ := (hs.perm (List.perm_append_comm (l₁ := [obj (b + 1) (.loop (rec .ready none))]) (l₂ := RI x ++ []))).lend (R1 := RI x ++ []) hf'
    rw [List.append_nil] at hst
    have hEnv : EnvOk n (putL ps.toList (args i) E) [rmk (b + 1)] { tmps := ((rec .ready none).params.zip (args i).toArray).foldl (fun tmps (t, a) => tmps.setIfInBounds t a) (rec .ready none).tmps, defers := [] } := by
      have h1 : EnvOk n E [rmk (b + 1)] ⟨a.tmps, dsOf [rmk (b + 1)]⟩ := ⟨ha.1, rfl, ha.2.2⟩
      have h2 := putL_ok (vs := args i) hps h1
      have e : ((rec .ready none).params.zip (args i).toArray).foldl (fun tmps (t, a) => tmps.setIfInBounds t a) (rec .ready none).tmps = (ps.toList.zip (args i)).foldl (fun tm (t, v) => tm.setIfInBounds t v) a.tmps := by
        rw [hrec]
        simp only [lrec]
        rw [← Array.foldl_toList]
        simp [Array.toList_zip]
      rw [e]; exact h2
    have hrd := hround (b + 1) i x h' hi hle hx w' h' f'' _ w' hle'' hEnv hst
    refine roundIn_of_wpIn trivial ?_
    have ha1 : (rec .ready none).assign = assign := by rw [hrec]; rfl
    have ha2 : (rec .ready none).body = body := by rw [hrec]; rfl
    rw [ha1, ha2]
    refine wpIn_mono (F := fen [rmk (b + 1)]) hrd ?_
    rintro e a' w2 ⟨he, s', k1, ⟨k2, k2'⟩, k3⟩
    cases e with
    | normal =>
      have hle2 : le h' s'.h := k2.h_le
      have t1 := (hbk _ _ _ hle2 k2).perm List.perm_append_comm
      have hl2 := t1.obj_at (i := 0) rfl
      have hrr : (rec .ready none).state = .ready := by rw [hrec]; rfl
      refine ⟨_, run_beginRound hl2 hrr, ?_⟩
      have hbusy : ({ rec .ready none with state := .busy } : Loop) = rec .busy none := by rw [hrec]; rfl
      rw [hbusy]
      have t2 := t1.putObj (.loop (rec .busy none))
      have hf2 : le h' f' := hf'
      obtain ⟨f3, hle3, hst3, hbk3⟩ := (t2.perm (List.perm_append_comm (l₁ := [obj (b + 1) (.loop (rec .busy none))]))).lend hf2
      have hb3 := k3 _ s'.h f3 a' _ hle3 k1 hst3
      have hfe : fen s'.D = fen [rmk (b + 1)] := by simp only [fen, k2']
      rw [hfe] at hb3
      refine wpIn_mono (F := fen [rmk (b + 1)]) hb3 ?_
      have fin : ∀ (s3 : S) (w4 : World) (x' : X), St (w2.putObj (b + 1) (.loop (rec .busy none))) s'.h f3 s3.R s3.h w4 → SubR s3.R (RI x') → le h' s3.h ∧ St w' h' f' (obj (b + 1) (.loop (rec .busy none)) :: (RI x' ++ [])) s3.h w4 := by
        intro s3 w4 x' m2 hsub
        have m3 := (hbk3 _ _ _ m2.h_le (m2.sub hsub)).perm List.perm_append_comm
        exact ⟨hle2.trans m2.h_le, by simpa using m3⟩
      rintro e2 a4 w4 ⟨he2, s3, m1, ⟨m2, _⟩, m3⟩
      cases e2 with
      | normal =>
        obtain ⟨x', hsub, hon⟩ := m3
        obtain ⟨q1, q2⟩ := fin s3 w4 x' m2 hsub
        have hl4 := q2.obj_at (i := 0) rfl
        refine ⟨_, _, run_endRound none hl4, by simp, [T (i + 1)], s3.h, q1, ?_, .inl ⟨rfl, rfl⟩⟩
        have er : ({ rec .busy none with state := if (none : Option Code).isNone then .ready else .done, pending := none } : Loop) = rec .ready none := by rw [hrec]; rfl
        rw [er, hTe]
        exact St.pack (RI := fun x => obj (b + 1) (.loop (rec .ready none)) :: RI x) x' hon (q2.putObj _)
      | ret =>
        obtain ⟨x', hsub, hon⟩ := m3
        obtain ⟨q1, q2⟩ := fin s3 w4 x' m2 hsub
        have hl4 := q2.obj_at (i := 0) rfl
        refine ⟨_, _, run_endRound (some .ret) hl4, by simp, [Tx i], s3.h, q1, ?_, .inr ⟨rfl, rfl⟩⟩
        have er : ({ rec .busy none with state := if (some Code.ret).isNone then .ready else .done, pending := some .ret } : Loop) = rec .done (some .ret) := by rw [hrec]; rfl
        rw [er, hTxe]
        exact St.pack (RI := fun cx : Code × X => obj (b + 1) (.loop (rec .done (some cx.1))) :: RI cx.2) (Code.ret, x') hon (q2.putObj _)
      | exit j =>
        obtain ⟨x', hsub, hon⟩ := m3
        obtain ⟨q1, q2⟩ := fin s3 w4 x' m2 hsub
        have hl4 := q2.obj_at (i := 0) rfl
        refine ⟨_, _, run_endRound (some (.exit j)) hl4, by simp, [Tx i], s3.h, q1, ?_, .inr ⟨rfl, rfl⟩⟩
        have er : ({ rec .busy none with state := if (some (Code.exit j)).isNone then .ready else .done, pending := some (.exit j) } : Loop) = rec .done (some (.exit j)) := by rw [hrec]; rfl
        rw [er, hTxe]
        exact St.pack (RI := fun cx : Code × X => obj (b + 1) (.loop (rec .done (some cx.1))) :: RI cx.2) (Code.exit j, x') hon (q2.putObj _)
      | goto t =>
        obtain ⟨x', hsub, hon⟩ := m3
        obtain ⟨q1, q2⟩ := fin s3 w4 x' m2 hsub
        have hl4 := q2.obj_at (i := 0) rfl
        refine ⟨_, _, run_endRound (some (.goto t)) hl4, by simp, [Tx i], s3.h, q1, ?_, .inr ⟨rfl, rfl⟩⟩
        have er : ({ rec .busy none with state := if (some (Code.goto t)).isNone then .ready else .done, pending := some (.goto t) } : Loop) = rec .done (some (.goto t)) := by rw [hrec]; rfl
        rw [er, hTxe]
        exact St.pack (RI := fun cx : Code × X => obj (b + 1) (.loop (rec .done (some cx.1))) :: RI cx.2) (Code.goto t, x') hon (q2.putObj _)
      | panic c => exact m3.elim
      | outgrown => exact absurd rfl he2
    | exit i => exact k3.elim
    | goto i => exact k3.elim
    | ret => exact k3.elim
    | panic c => exact k3.elim
    | outgrown => exact absurd rfl he
  have hcall := hit h (le.refl _) (b + 1) T Tx hrounds f1 w1 hle1 hs1
  refine callsIn_fen (hcall.mono ?_)
  rintro e w3 ⟨he, R', h', hle', hs', hA⟩
  have hEnv : EnvOk n E (mkd b :: D) { a with defers := [mkd b] ++ a.defers } := ⟨ha.1, by simp [ha.2.1, dsOf, hrm b, hro], ha.2.2⟩
  cases e with
  | outgrown => exact absurd rfl he
  | panicked ch => exact hA.elim
  | returned v =>
    have hbk := hback _ _ _ hle' hs'
    rcases hA with ⟨R3, rfl⟩ | ⟨i, hi, R3, rfl⟩
    · rw [hTe] at hbk
      obtain ⟨x, hx, q⟩ := St.unpack hbk
      have hl := q.obj_at (i := 0) rfl
      refine ⟨_, _, run_endLoop hl (by rw [hrec]; simp [lrec]), ?_⟩
      have hpe : (rec .ready none).pending = none := by rw [hrec]; rfl
      rw [hpe]
      refine ⟨by simp, ⟨E, mkd b :: D, RI x ++ (obj b (.deferred (some [])) :: R2), h'⟩, hEnv, ⟨?_, by simp [hrm b, hro]⟩, hdone b x h' hle' hx⟩
      exact (q.putObj _).sub (back_sub _ R3)
    · rw [hTxe] at hbk
      obtain ⟨⟨c, x⟩, hx, q⟩ := St.unpack hbk
      have hl := q.obj_at (i := 0) rfl
      have hend := run_endLoop (P := P) hl (by rw [hrec]; simp [lrec])
      have hpe : (rec .done (some c)).pending = some c := by rw [hrec]; rfl
      have hq := hstop b i c x h' hle' hi hx
      have hst := (q.putObj (.loop { rec .done (some c) with state := .exhausted })).sub (back_sub (o := _) (d := b) (RI := RI x) (R2 := R2) _ R3)
      generalize w3.putObj (b + 1) (.loop { rec .done (some c) with state := .exhausted }) = w4 at hend hst
      rw [hpe] at hend
      refine ⟨_, w4, hend, ?_⟩
      have hrr : roOf (mkd b :: D) = roOf D := by rw [hrm b, hro]
      rcases hpx i c x hi hx with rfl | ⟨j, rfl⟩ | ⟨t, rfl⟩
      · exact wpIn_ret ⟨by simp, ⟨E, mkd b :: D, RI x ++ (obj b (.deferred (some [])) :: R2), h'⟩, hEnv, ⟨hst, hrr⟩, hq⟩
      · exact wpIn_exit ⟨by simp, ⟨E, mkd b :: D, RI x ++ (obj b (.deferred (some [])) :: R2), h'⟩, hEnv, ⟨hst, hrr⟩, hq⟩
      · exact wpIn_goto ⟨by simp, ⟨E, mkd b :: D, RI x ++ (obj b (.deferred (some [])) :: R2), h'⟩, hEnv, ⟨hst, hrr⟩, hq⟩
end
/-- A body that may hold one outermost range over a function. -/
def BodyM (P : Program) (n : Nat) (fn : Func) (K : Post) : Exit → S → Prop
  | .normal, s | .ret, s => (s.D = [] ∧ RetOk P n fn s K) ∨ ∃ b R1, s.D = [mkd b] ∧ SubR s.R (obj b (.deferred (some [])) :: R1) ∧ RetOk P n fn ⟨s.E, [], R1, s.h⟩ K
  | _, _ => False
theorem Does_of_WM {P : Program} {n : Nat} {h : PH} {R : List SL} {K : Post} {fn : Func} {f : FuncId} {c : Code} {args : List Value} (hf : P.funcs[f]? = some fn) (hb : fn.body = some c) (hn : Nat.beq fn.ntmps n = true) (hl : Nat.ble args.length n = true) {E : Env} (hE : argE 0 args = E)
    (k : W P n c ⟨E, [], R, h⟩ (BodyM P n fn K)) : Does P f args R h K := by
  subst hE
  intro f' w hf' hw
  have hn : fn.ntmps = n := Nat.eq_of_beq_eq_true hn
  have hl : args.length ≤ n := Nat.le_of_ble_eq_true hl
  refine (callsIn_wide (n := 0)).1 (callsIn_of_wp_marks hf hb trivial ?_)
  have ha : EnvOk n (argE 0 args) [] { tmps := args.toArray ++ Array.replicate (fn.ntmps - args.toArray.size) undef, defers := [] } := by
    refine ⟨by simp [hn]; omega, rfl, ?_⟩
    intro t v ht
    have := (argE_lk args 0 t v ht).2
    have hlt : t < args.length := by
      rcases Nat.lt_or_ge t args.length with h | h
      · exact h
      · simp [List.getElem?_eq_none h] at this
    rw [Array.getElem?_append_left (by simpa using hlt)]
    simpa using this
  refine wpIn_mono (F := Fence.wide) (k w h f' _ w hf' ha hw) ?_
  rintro e a' w' ⟨he, s', h1, ⟨h2, _⟩, h3⟩
  have fin : ((s'.D = [] ∧ RetOk P n fn s' K) ∨ ∃ b R1, s'.D = [mkd b] ∧ SubR s'.R (obj b (.deferred (some [])) :: R1) ∧ RetOk P n fn ⟨s'.E, [], R1, s'.h⟩ K) →
      LeavesInM Fence.wide 0 P fn a'.tmps (fun e w' => e ≠ .outgrown ∧ ∃ R' h', le h h' ∧ St w h f' R' h' w' ∧ K e R' h') a'.defers .returning w' := by
    rintro (⟨hD, hR⟩ | ⟨b, R1, hD, hR1, hR⟩)
    · obtain ⟨v, R', h', hr, hs, hk⟩ := hR w h f' a' w' hf' h1 h2
      rw [show a'.defers = [] from h1.2.1.trans (by rw [hD]; rfl)]
      exact ⟨v, hr, by simp, R', h', hs.h_le, hs, hk⟩
    · rw [show a'.defers = [mkd b] from h1.2.1.trans (by rw [hD]; rfl)]
      have t1 := h2.sub hR1
      have hb := t1.obj_at (i := 0) rfl
      have t2 := t1.putObj (.deferred none)
      have t3 : St w h f' R1 s'.h (w'.putObj b (.deferred none)) := t2.drop (i := 0)
      obtain ⟨v, R', h', hr, hs, hk⟩ := hR w h f' { a' with defers := [] } _ hf' ⟨h1.1, rfl, h1.2.2⟩ t3
      exact ⟨by simp, .inl ⟨b, _, rfl, run_takeDeferred hb, v, hr, by simp, R', h', hs.h_le, hs, hk⟩⟩
  cases e with
  | normal => exact fin h3
  | ret => exact fin h3
  | panic ch => exact h3.elim
  | exit i => exact h3.elim
  | goto i => exact h3.elim
  | outgrown => exact absurd rfl he
theorem BodyM_0 {P : Program} {n : Nat} {fn : Func} {K : Post} {s : S} (h : Body P n fn K .ret s) : BodyM P n fn K .ret s := .inl h
theorem BodyM_00 {P : Program} {n : Nat} {fn : Func} {K : Post} {s : S} (h : Body P n fn K .normal s) : BodyM P n fn K .normal s := .inl h
theorem BodyM_1 {P : Program} {n : Nat} {fn : Func} {K : Post} {E : Env} {b : Nat} {R R1 : List SL} {h : PH} (hR : SubR R (obj b (.deferred (some [])) :: R1)) (k : Body P n fn K .ret ⟨E, [], R1, h⟩) : BodyM P n fn K .ret ⟨E, [mkd b], R, h⟩ := .inr ⟨b, R1, rfl, hR, k.2⟩
theorem BodyM_10 {P : Program} {n : Nat} {fn : Func} {K : Post} {E : Env} {b : Nat} {R R1 : List SL} {h : PH} (hR : SubR R (obj b (.deferred (some [])) :: R1)) (k : Body P n fn K .normal ⟨E, [], R1, h⟩) : BodyM P n fn K .normal ⟨E, [mkd b], R, h⟩ := .inr ⟨b, R1, rfl, hR, k.2⟩
end Go.Par
