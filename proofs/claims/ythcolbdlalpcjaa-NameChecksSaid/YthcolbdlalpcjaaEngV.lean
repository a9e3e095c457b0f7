/- Engine: a string's bytes appended to a row of one's own; rows that the library makes. It speaks of no program. -/
import Derived.Test.YthcolbdlalpcjaaEngU
namespace Go.Par
open Go PH
section
variable {P : Program}
theorem run_appendS_grow {w : World} {t tx e : TypeId} {m cap : Nat} {base : Option Addr} {s : ByteArray} {xs : List Value} (ht : ElemT P t e 1 1) (htx : P.underlying tx = some .string)
    (hold' : ∀ (w' : World), w'.heap = w.heap → (Builtin.firstCells 1 m (.slice base m cap)).run P w' = .ok xs.toArray w')
    (hg : ¬ m + s.size ≤ cap) (hb : m + s.size ≤ 140737488355328) (ty : TypeId) :
    ∃ cap' rest, m + s.size ≤ cap' ∧ rest.length = cap' - (m + s.size) ∧ (Builtin.append_ #[t, tx] ty #[.slice base m cap, .string s]).run P w = .ok (.slice (some ⟨w.heap.size, 0, none⟩) (m + s.size) cap') { w with drawn := w.drawn + 1, heap := w.heap.push (.cells (xs ++ bytesV s ++ rest).toArray e (0, 0)) } := by
  obtain ⟨hsl, inf, zv, hinf, hz, hsz, hby, hzs⟩ := ht
  have hfit := growslice_fits (need := m + s.size) (old := cap) (bytes := 1) (by omega) (by omega)
  let q : Question := .appendCap (m + s.size) cap e
  let cap' := q.cut (w.tape w.drawn q)
  have hcap' : m + s.size ≤ cap' := by simp only [cap', q, Question.cut]; omega
  refine ⟨cap', (Builtin.zeroCells zv.cells (cap' - (m + s.size))).toList, hcap', by simp [zeroCells_size, hzs], ?_⟩
  have h1 := hold' w.drew rfl
  have h63' : ¬ (9223372036854775807 < ((m : Int) + (s.size : Int))) := by omega
  have h48' : ¬ (281474976710656 < Builtin.nextslicecap (m + s.size) cap) := by omega
  have e6 : s.data.map (fun b => Value.int .u8 b.toNat) = (bytesV s).toArray := by
    apply Array.ext'; unfold bytesV; simp
  simp [Builtin.append_, run_underlying w (slOf_under hsl), run_underlying w htx, sizeOf, typeInfo, zeroValue, hinf, hz, Builtin.lenOf, hg, h63', h48', hsz, hby, Question.forced, h1, newRow]
  simp [Builtin.firstCells]
  refine ⟨rfl, ?_⟩
  rw [e6]
  unfold World.alloc World.drew
  congr 2
  have eAB : ∀ A B : Array Value, (A.toList ++ B.toList).toArray = A ++ B := fun A B => by apply Array.ext'; simp
  simp [cap', q]
theorem run_appendS_room {w : World} {t tx e : TypeId} {m cap b : Nat} {c : List Value} {s : ByteArray} (ht : ElemT P t e 1 1) (htx : P.underlying tx = some .string)
    (hb : w.heap[b]? = some (.cells c.toArray e (0, 0))) (hc : c.length = cap) (hg : m + s.size ≤ cap) (ty : TypeId) :
    (Builtin.append_ #[t, tx] ty #[.slice (some ⟨b, 0, none⟩) m cap, .string s]).run P w = .ok (.slice (some ⟨b, 0, none⟩) (m + s.size) cap) (setRow w b (wr c m (bytesV s)) e) := by
  obtain ⟨hsl, inf, zv, hinf, hz, hsz, hby, hzs⟩ := ht
  have hst := run_storeCells_at (P := P) (b := b) (off := m) (i := 0) (vs := bytesV s) hb (by rw [bytesV_len]; omega) (bytesV_flat s)
  simp only [Nat.add_zero] at hst
  have e6 : s.data.map (fun b => Value.int .u8 b.toNat) = (bytesV s).toArray := by
    apply Array.ext'; unfold bytesV; simp
  simp [Builtin.append_, run_underlying w (slOf_under hsl), run_underlying w htx, sizeOf, typeInfo, hinf, hsz, Builtin.lenOf, hg, Builtin.firstCells, add_spot]
  have e7 : List.map (fun b => Value.int .u8 b.toNat) s.data.toList = bytesV s := rfl
  rw [List.take_of_length_le (by simp), e7, hst]
  rfl
/-- append of a string, of a row of one's own. -/
theorem run_appendS {κ : World} {h0 f : PH} {R : List SL} {h : PH} {w : World} {i : Nat} {t tx e : TypeId} {m : Nat} {v : Value} {s : ByteArray} {xs : List Value} (st : St κ h0 f R h w)
    (ht : ElemT P t e 1 1) (htx : P.underlying tx = some .string) (hi : R[i]? = some (row v e 1 m xs)) (hb : m + s.size ≤ 140737488355328) (ty : TypeId) :
    ∃ v' w', (Builtin.append_ #[t, tx] ty #[v, .string s]).run P w = .ok v' w' ∧ (s.size = 0 → v' = v) ∧ St κ h0 f (R.set i (row v' e 1 (m + s.size) (xs ++ bytesV s))) h w' := by
  have hiL : i < R.length := by
    rcases Nat.lt_or_ge i R.length with h | h
    · exact h
    · simp [List.getElem?_eq_none h] at hi
  have hst := st
  have hyl := bytesV_len s
  obtain ⟨hw4, g, kk, eh, hstars, hgf, hkf, hgk, hg, hk, hwf⟩ := st
  obtain ⟨x1, y1, rfl, hd, ⟨hxl, hrow⟩, hset, her⟩ := stars_get hi hstars
  have fresh : ∀ (base : Option Addr) (cap : Nat), v = .slice base m cap → ¬ m + s.size ≤ cap → (s.size = 0 → False) → (∀ (w' : World), w'.heap = w.heap → (Builtin.firstCells 1 m (.slice base m cap)).run P w' = .ok xs.toArray w') →
      ∃ v' w', (Builtin.append_ #[t, tx] ty #[v, .string s]).run P w = .ok v' w' ∧ (s.size = 0 → v' = v) ∧ St κ h0 f (R.set i (row v' e 1 (m + s.size) (xs ++ bytesV s))) h w' := by
    rintro base cap rfl hgt hne hold
    obtain ⟨cap', rest, hc1, hc2, hrun⟩ := run_appendS_grow (P := P) (w := w) (s := s) (xs := xs) ht htx hold hgt hb ty
    refine ⟨_, _, hrun, fun h => (hne h).elim, ?_⟩
    have h1 := (hst.drawn (w.drawn + 1)).new (.cells (xs ++ bytesV s ++ rest).toArray e (0, 0))
    have h2 := h1.drop (i := i + 1)
    simp only [List.eraseIdx_cons_succ] at h2
    refine St.perm (set_perm hiL).symm ?_
    refine (h2.setObj (i := 0) rfl (r' := row (.slice (some ⟨w.heap.size, 0, none⟩) (m + s.size) cap') e 1 (m + s.size) (xs ++ bytesV s)) ?_)
    intro g hg
    refine ⟨by rw [List.length_append, hxl, hyl]; omega, .inr ⟨w.heap.size, cap', _, rfl, hc1, ?_, ?_, hg⟩⟩
    · simp only [List.length_append, hxl, hyl, hc2]; omega
    · rw [List.take_append_of_le_length (by rw [List.length_append, hxl, hyl]; omega)]
      rw [List.take_of_length_le (by rw [List.length_append, hxl, hyl]; omega)]
  rcases hrow with ⟨rfl, rfl, hx1⟩ | ⟨b, cap, c, rfl, hmc, hcl, htk, hblk⟩
  · simp at hxl; subst hxl
    by_cases hk0 : s.size = 0
    · have hs0 : bytesV s = [] := List.eq_nil_of_length_eq_zero (by rw [hyl]; exact hk0)
      obtain ⟨hsl, inf, zv, hinf, hz, hsz, hby, hzs⟩ := ht
      refine ⟨.slice none 0 0, w, ?_, fun _ => rfl, ?_⟩
      · simp [Builtin.append_, run_underlying w (slOf_under hsl), run_underlying w htx, sizeOf, typeInfo, hinf, hsz, Builtin.lenOf, hk0, Builtin.firstCells]
      · rw [hs0, hk0]
        exact hst.setObj hi (fun g hg => by simpa using hg)
    · exact fresh none 0 rfl (by omega) hk0 (fun w' _ => by simp [Builtin.firstCells])
  · have hblk : x1 = one b _ := hblk
    subst hblk
    have hbw : w.heap[b]? = some (.cells c.toArray e (0, 0)) := hg b _ (by simp [un, one])
    have hold : ∀ (w' : World), w'.heap = w.heap → (Builtin.firstCells 1 m (.slice (some ⟨b, 0, none⟩) m cap)).run P w' = .ok xs.toArray w' := fun w' e1 => by
      have hrd : rd c 0 (m * 1) = some xs := rd_of hxl fun j hj => by rw [← htk, List.getElem?_take, if_pos hj, Nat.zero_add]
      have hb' : w'.heap[b]? = some (.cells c.toArray e (0, 0)) := by rw [e1]; exact hbw
      simp [Builtin.firstCells]
      exact run_loadCells_at hb' (by simpa using hrd)
    by_cases hroom : m + s.size ≤ cap
    · have hcl' : c.length = cap := by rw [hcl, Nat.mul_one]
      have hrun := run_appendS_room (P := P) (w := w) (s := s) ht htx hbw hcl' hroom ty
      refine ⟨_, _, hrun, fun h => by rw [h, Nat.add_zero], ?_⟩
      have hblkR : St κ h0 f (R.set i (blk b c e)) h w := ⟨hw4, _, kk, eh, hset (blk b c e) _ rfl hd, hgf, hkf, hgk, hg, hk, hwf⟩
      have h1 := hblkR.turnRow (i := i) (b := b) (c := c) (c' := wr c m (bytesV s)) (t := e) (by simp [hiL])
      rw [List.set_set] at h1
      have h2 := h1.setObj (i := i) (r := blk b (wr c m (bytesV s)) e) (by simp [hiL]) (r' := row (.slice (some ⟨b, 0, none⟩) (m + s.size) cap) e 1 (m + s.size) (xs ++ bytesV s)) ?_
      · rw [List.set_set] at h2; exact h2
      · intro g hg
        refine ⟨by rw [List.length_append, hxl, hyl]; omega, .inr ⟨b, cap, _, rfl, hroom, by rw [wr_length]; exact hcl, ?_, hg⟩⟩
        apply List.ext_getElem?
        intro j
        rw [List.getElem?_take, Nat.mul_one]
        rw [Nat.mul_one] at hxl htk
        by_cases hj : j < m + s.size
        · rw [if_pos hj, wr_get (by rw [hyl, hcl']; exact hroom)]
          by_cases hj2 : m ≤ j ∧ j < m + (bytesV s).length
          · rw [if_pos hj2, List.getElem?_append_right (by omega), hxl]
          · rw [if_neg hj2, List.getElem?_append_left (by omega), ← htk, List.getElem?_take, if_pos (by omega)]
        · rw [if_neg hj]
          rw [List.getElem?_eq_none (by rw [List.length_append, hxl, hyl]; omega)]
    · have hcl' : c.length = cap := by rw [hcl, Nat.mul_one]
      exact fresh (some ⟨b, 0, none⟩) cap rfl hroom (by omega) hold
end
section
variable {P : Program} {n : Nat} {ops : Array Oper} {l : List Oper} {o : Oper} {E : Env} {D : List Deferred} {R : List SL} {h : PH} {K : S → Prop} {Q : Exit → S → Prop}
theorem WL_appendS {x y : Operand} {t tx e : TypeId} {i : Nat} {v : Value} {s : ByteArray} {L : List UInt8} {d : Tmp} (ho : o.op = .call ⟨.builtin .append, #[x, y], #[t, tx]⟩) (hx : ev E x = some v) (hy : ev E y = some (.string s))
    (ht : ElemT P t e 1 1) (htx : P.underlying tx = some .string) (hi : R[i]? = some (rowL encB8 v e 1 L)) (hb : L.length + s.size ≤ 140737488355328) (hd : o.dst = some d) (hg : gd ops E o = some true) (hn : Nat.blt d n = true)
    (kk : ∀ v', (s.size = 0 → v' = v) → WL P n ops l ⟨(d, v') :: E, D, R.set i (rowL encB8 v' e 1 (L ++ s.data.toList)), h⟩ K Q) : WL P n ops (o :: l) ⟨E, D, R, h⟩ K Q := by
  refine WL_any (A := fun v' R' h' => (s.size = 0 → v' = v) ∧ R' = R.set i (rowL encB8 v' e 1 (L ++ s.data.toList)) ∧ h' = h) ?_ hd hg hn fun v' _ _ _ ⟨e0, e1, e2⟩ => by subst e1; subst e2; exact kk v' e0
  refine Exec_of_run fun κ h0 f a w hf ha hw => ?_
  obtain ⟨v', w', hr, h0', hs⟩ := run_appendS (s := s) hw ht htx hi hb o.type
  refine ⟨v', _, h, w', .inl ?_, le.refl _, hs, h0', ?_, rfl⟩
  · simp only [execOp, ho, resolve, invoke, builtin, Sem.run_bind, Sem.run_pure, Result.andThen_ok]
    simp [ha.ev hx, ha.ev hy, hr]
  · simp only [rowL, List.length_append, List.flatMap_append, bytesV_eq]
    rfl
/-- A row of bytes that the library makes. -/
def mkR (v : Value) (m : Nat) (e : TypeId) : SL := fun g => ∃ b cap c, v = .slice (some ⟨b, 0, none⟩) m cap ∧ m ≤ cap ∧ c.length = cap ∧ blk b c e g
theorem digits_len : ∀ (k t : Nat) (acc : Array Value), (Extern.BytealgMakeNoZero.digits k t acc).size = acc.size + k
  | 0, _, _ => rfl
  | k + 1, t, acc => by rw [Extern.BytealgMakeNoZero.digits, digits_len k]; simp; omega
theorem ex_choose {β : Type} {q : Question} {f : Nat → Sem β} {w : World} {G : Nat → Result β} (hq : q.forced = false) (k : ∀ x, (f x).run P { w with drawn := w.drawn + 1 } = G x) : ∃ x, (choose q >>= f).run P w = G x :=
  ⟨q.cut (w.tape w.drawn q), by rw [Sem.run_bind, run_choose, if_neg (by simp [hq]), Result.andThen_ok]; exact k _⟩
theorem run_makeNoZero {ps : Array TypeId} {t e : TypeId} {m : Nat} (w : World) (ht : slOf P t = some e) (hm : m ≤ 281474976710656) :
    ∃ cap c, m ≤ cap ∧ (c : List Value).length = cap ∧ (Extern.BytealgMakeNoZero.makeNoZero ps #[t] #[.int .i64 (m : Int)]).run P w = .ok (.slice (some ⟨w.heap.size, 0, none⟩) m cap) { w with drawn := w.drawn + 2, heap := w.heap.push (.cells c.toArray e (0, 0)) } := by
  let q : Question := .appendCap m 0 e
  let cap := q.cut (w.tape w.drawn q)
  have hcap : m ≤ cap := by simp only [cap, q, Question.cut]; omega
  let w1 : World := { w with drawn := w.drawn + 1 }
  suffices hx : ∃ bt, (Extern.BytealgMakeNoZero.makeNoZero ps #[t] #[.int .i64 (m : Int)]).run P w = .ok (.slice (some ⟨w.heap.size, 0, none⟩) m cap) { w with drawn := w.drawn + 2, heap := w.heap.push (.cells (Extern.BytealgMakeNoZero.digits cap bt #[]) e (0, 0)) } by
    obtain ⟨bt, hbt⟩ := hx
    exact ⟨cap, (Extern.BytealgMakeNoZero.digits cap bt #[]).toList, hcap, by simp [digits_len], hbt⟩
  have hcond : ¬ ((decide ((m : Int) < 0) || decide ((m : Int) > 2 ^ 48)) = true) := by
    simp only [Bool.or_eq_true, decide_eq_true_eq]
    omega
  have r1 : (choose (.appendCap (m : Int).toNat 0 e)).run P w = .ok cap w1 := by
    rw [Int.toNat_natCast, run_choose, if_neg (by simp [Question.forced])]
  change ∃ bt, Sem.run P (underlying t >>= fun d => _) w = Result.ok _ _
  rw [Sem.run_bind, run_underlying w (slOf_under ht), Result.andThen_ok]
  change ∃ bt, Sem.run P (ite ((decide ((m : Int) < 0) || decide ((m : Int) > 2 ^ 48)) = true) _ _) w = Result.ok _ _
  rw [if_neg hcond]
  change ∃ bt, Sem.run P (choose (.appendCap (m : Int).toNat 0 e) >>= fun d => _) w = Result.ok _ _
  rw [Sem.run_bind, r1, Result.andThen_ok]
  change ∃ bt, Sem.run P (askRoom cap >>= fun d => _) w1 = Result.ok _ _
  rw [Sem.run_bind, run_askRoom, Result.andThen_ok]
  refine ex_choose rfl fun bt => ?_
  change Sem.run P (newRow e (Extern.BytealgMakeNoZero.digits cap bt #[]) >>= fun d => _) _ = _
  simp [newRow]
  exact ⟨rfl, rfl⟩
theorem X_makeNoZero {fo : Operand} {xs : Array Operand} {tys : Array TypeId} {f : FuncId} {fn : Func} {t e : TypeId} {m : Nat} (ho : o.op = .call ⟨.value fo, xs, tys⟩) (hfo : ev E fo = some (.func (.func f) #[] #[]))
    (hxs : evs E xs.toList = some [.int .i64 (m : Int)]) (hfn : P.funcs[f]? = some fn) (hnm : (fn.name == "runtime.NumGoroutine") = false) (hb : fn.body.isNone = true) (hn : Extern.findNext fn = none)
    (he : Extern.find fn = some (Extern.BytealgMakeNoZero.makeNoZero fn.params #[t])) (ht : slOf P t = some e) (hm : m ≤ 281474976710656) :
    Exec P n o ⟨E, D, R, h⟩ (Ret fun v R' h' => R' = mkR v m e :: R ∧ h' = h) := by
  refine Exec_of_run fun κ h0 f' a w _ ha hw => ?_
  have e1 : xs.map a.eval = #[.int .i64 (m : Int)] := map_arr (ha.evs hxs)
  obtain ⟨cap, c, hcap, hcl, hrun⟩ := run_makeNoZero (P := P) (ps := fn.params) w ht hm
  have hst := (hw.drawn (w.drawn + 2)).new (.cells c.toArray e (0, 0))
  refine ⟨.slice (some ⟨w.heap.size, 0, none⟩) m cap, _, h, _, .inl ?_, le.refl _, hst.setObj (i := 0) rfl (r' := mkR (.slice (some ⟨w.heap.size, 0, none⟩) m cap) m e) (fun g hg => ⟨_, cap, c, rfl, hcap, hcl, hg⟩), rfl, rfl⟩
  simp only [execOp, ho, resolve, Deferred.ofValue, ha.ev hfo, e1, Sem.run_bind, Sem.run_pure, Result.andThen_ok, invoke, Array.append_empty, Array.empty_append]
  rw [run_callFunc_extern hfn hnm hb hn he, hrun]; rfl
theorem X_copyN {x y : Operand} {t tx e : TypeId} {a : Addr} {m cap : Nat} (ho : o.op = .call ⟨.builtin .copy, #[x, y], #[t, tx]⟩) (ht : slOf P t = some e) (hs : szOf P e = some 1) (hx : ev E x = some (.slice (some a) m cap)) (hy : ev E y = some (.slice none 0 0)) : Exec P n o ⟨E, D, R, h⟩ (Is (.int .i64 0) R h) :=
  Exec_is fun ac w ha => by
    simp [execOp, ho, resolve, invoke, builtin, ha.ev hx, ha.ev hy, Builtin.copy_, run_underlying w (slOf_under ht), run_sizeOf w hs, Builtin.lenOf, Builtin.firstCells, storeCells, goInt]
/-- One byte as a string. -/
theorem X_convB1 {s d e : TypeId} {x : Operand} {v : Value} {b : UInt8} (ho : o.op = .convert s d x) (hs : slOf P s = some e) (hd : P.underlying d = some .string) (he : P.underlying e = some (.int .u8)) (hx : ev E x = some v) (hv : Sl encB8 1 h v [b]) :
    Exec P n o ⟨E, D, R, h⟩ (Is (.string ⟨#[b]⟩) R h) := by
  refine Exec_of_run fun κ h0 f a w hf ha hw => ?_
  have hsrc := (Src.sl (P := P) (R := R) hv).2.2 κ h0 f w hf hw
  obtain ⟨va, vc, e1⟩ := hv.shape
  have e1 : v = .slice va 1 vc := e1
  subst e1
  refine ⟨_, R, h, w, .inl ?_, le.refl _, hw, rfl, rfl, rfl⟩
  cases va with
  | none =>
    obtain ⟨_, a, c, e, _, hn, _⟩ := hv
    simp only [Value.slice.injEq] at e
    have := (hn e.1.symm).1
    cases this
  | some va =>
    have hl : (loadCells va 1).run P w = .ok #[.int .u8 b.toNat] w := hsrc
    simp [execOp, ho, ha.ev hx, convert, run_underlying w (slOf_under hs), run_underlying w hd, run_underlying w he, Conv.bytesToString, hl]
    rfl
end
/-- A row that has elements, opened. -/
theorem UpdE.rowBlk {α : Type} {enc : α → List Value} {R : List SL} {h : PH} {sz : Nat} {v : Value} {L : List α} {e : TypeId} (i : Nat) (hi : R[i]? = some (rowL enc v e sz L)) (hp : 0 < L.length) :
    UpdE R h fun R' h' => h' = h ∧ ∃ b cap c, v = .slice (some ⟨b, 0, none⟩) L.length cap ∧ L.length ≤ cap ∧ c.length = cap * sz ∧ c.take (L.length * sz) = L.flatMap enc ∧ R' = R.set i (blk b c e) := fun κ h0 f w hf s => by
  have s0 := s
  obtain ⟨a1, g, k, eh, hr, rest⟩ := s
  obtain ⟨x, y, rfl, hd, ⟨hxl, hrow⟩, hset, her⟩ := stars_get hi hr
  rcases hrow with ⟨h1, h2, _⟩ | ⟨b, cap, c, h1, h2, h3, h4, h5⟩
  · omega
  · exact ⟨_, h, le.refl _, ⟨rfl, b, cap, c, h1, h2, h3, h4, rfl⟩, ⟨a1, un x y, k, eh, hset _ _ h5 hd, rest⟩⟩
end Go.Par
