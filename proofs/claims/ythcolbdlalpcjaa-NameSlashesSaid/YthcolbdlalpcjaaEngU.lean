/- Engine: strings built up: bytes appended to rows of one's own, rows made by the library, rows read as strings. It speaks of no program. -/
import Derived.Test.YthcolbdlalpcjaaEngT
namespace Go.Par
open Go PH
section
variable {P : Program} {n : Nat} {ops : Array Oper} {l : List Oper} {o : Oper} {E : Env} {D : List Deferred} {R : List SL} {h : PH} {K : S → Prop} {Q : Exit → S → Prop}
theorem X_cpl {t : TypeId} {x : Operand} {k : IntKind} {a : Int} (ho : o.op = .unOp .xor t x) (hx : ev E x = some (.int k a)) : Exec P n o ⟨E, D, R, h⟩ (Is (.int k (bits .xor k (if k.signed then -1 else k.max) a)) R h) :=
  Exec_is fun ac w ha => by simp [execOp, ho, ha.ev hx, Op.unary, intBits_xor]
theorem X_neB_c {t u : TypeId} {x y : Operand} {a b c : Bool} (ho : o.op = .binOp .neq t x y u) (ht : P.underlying t = some .bool) (hx : ev E x = some (.bool a)) (hy : ev E y = some (.bool b)) (hc : (a == b) = c) : Exec P n o ⟨E, D, R, h⟩ (Is (.bool (!c)) R h) := by
  subst hc; exact X_neB ho ht hx hy
/-- What the library gives back as it was. -/
theorem X_noEscape {fo : Operand} {xs : Array Operand} {tys : Array TypeId} {f : FuncId} {fn : Func} {v : Value} (ho : o.op = .call ⟨.value fo, xs, tys⟩) (hfo : ev E fo = some (.func (.func f) #[] #[]))
    (hxs : evs E xs.toList = some [v]) (hfn : P.funcs[f]? = some fn) (hnm : (fn.name == "runtime.NumGoroutine") = false) (hb : fn.body.isNone = true) (hn : Extern.findNext fn = none)
    (he : Extern.find fn = some Extern.AbiNoEscape.same) : Exec P n o ⟨E, D, R, h⟩ (Is v R h) :=
  Exec_is fun a w ha => by
    have e1 : xs.map a.eval = #[v] := map_arr (ha.evs hxs)
    simp only [execOp, ho, resolve, Deferred.ofValue, ha.ev hfo, e1, Sem.run_bind, Sem.run_pure, Result.andThen_ok, invoke, Array.append_empty, Array.empty_append]
    rw [run_callFunc_extern hfn hnm hb hn he]; rfl
theorem run_program (w : World) : (program).run P w = .ok P w := rfl
theorem run_shape (r : Nat) (w : World) : (shape r).run P w = .ok (w.shape? r) w := rfl
theorem shape_of {w : World} {b : Nat} {c : List Value} {t : TypeId} (hb : w.heap[b]? = some (.cells c.toArray t (0, 0))) : w.shape? b = some (t, c.length) := by simp [World.shape?, hb]
theorem run_viewAt {w : World} {b : Nat} {c : List Value} {t : TypeId} (hb : w.heap[b]? = some (.cells c.toArray t (0, 0))) : (viewAt b).run P w = .ok none w := by
  simp only [viewAt, Sem.run_bind, run_shape, Result.andThen_ok, shape_of hb, Option.isSome_some, if_true, Sem.run_pure]
theorem run_seenAt {w : World} {b off : Nat} {c : List Value} {t : TypeId} (hb : w.heap[b]? = some (.cells c.toArray t (0, 0))) : (Conv.seenAt ⟨b, off, none⟩).run P w = .ok ⟨b, off, none⟩ w := by
  simp only [Conv.seenAt, Sem.run_bind, run_viewAt hb, Result.andThen_ok, Sem.run_pure]
theorem X_toUnsafe {s d e t0 : TypeId} {x : Operand} {i b sz : Nat} {c : List Value} (ho : o.op = .convert s d x) (hs : P.underlying s = some (.pointer e)) (hd : P.underlying d = some .unsafePointer) (hz : szOf P e = some sz) (h0 : Nat.beq sz 0 = false)
    (hx : ev E x = some (.pointer (some ⟨b, 0, none⟩))) (hi : R[i]? = some (blk b c t0)) (hc : Nat.beq c.length 0 = false) : Exec P n o ⟨E, D, R, h⟩ (Is (.pointer (some ⟨b, 0, none⟩)) R h) :=
  Exec_of_run fun κ h0' f ac w hf hac hw => by
    have hb := hw.obj_at hi
    have hsz : sz ≠ 0 := by intro e; subst e; simp at h0
    have hcl : c.length ≠ 0 := by intro e; rw [e] at hc; simp at hc
    refine ⟨_, R, h, w, .inl ?_, le.refl _, hw, rfl, rfl, rfl⟩
    simp [execOp, ho, hac.ev hx, convert, run_underlying w hs, run_underlying w hd, Conv.unsafePointer, run_seenAt hb, cellsIn, shape_of hb, run_sizeOf w hz, hsz, hcl]
theorem X_fromUnsafe {s d e t0 : TypeId} {x : Operand} {i b sz : Nat} {c : List Value} (ho : o.op = .convert s d x) (hs : P.underlying s = some .unsafePointer) (hd : P.underlying d = some (.pointer e)) (hz : szOf P e = some sz)
    (hx : ev E x = some (.pointer (some ⟨b, 0, none⟩))) (hi : R[i]? = some (blk b c t0)) (hl : liesAt P P.depth t0 (c.length / P.cellsOf t0) 0 e 1 = true) : Exec P n o ⟨E, D, R, h⟩ (Is (.pointer (some ⟨b, 0, none⟩)) R h) :=
  Exec_of_run fun κ h0' f ac w hf hac hw => by
    have hb := hw.obj_at hi
    have hv : (variablesAt ⟨b, 0, none⟩ e 1).run P w = .ok true w := by
      simp only [variablesAt, Sem.run_bind, run_program, Result.andThen_ok, run_shape, shape_of hb, hl, Sem.run_pure]
    refine ⟨_, R, h, w, .inl ?_, le.refl _, hw, rfl, rfl, rfl⟩
    simp [execOp, ho, hac.ev hx, convert, run_underlying w hs, run_underlying w hd, Conv.unsafePointer, run_seenAt hb, run_sizeOf w hz, hv]
theorem X_nePPs {t u e : TypeId} {x y : Operand} {b sz : Nat} (ho : o.op = .binOp .neq t x y u) (ht : P.underlying t = some (.pointer e)) (hz : szOf P e = some sz) (h0 : Nat.beq sz 0 = false)
    (hx : ev E x = some (.pointer (some ⟨b, 0, none⟩))) (hy : ev E y = some (.pointer (some ⟨b, 0, none⟩))) : Exec P n o ⟨E, D, R, h⟩ (Is (.bool false) R h) :=
  Exec_is fun ac w hac => by
    have hsz : sz ≠ 0 := by intro e; subst e; simp at h0
    have hr : (Op.equal t (.pointer (some ⟨b, 0, none⟩)) (.pointer (some ⟨b, 0, none⟩))).run P w = .ok true w := by
      show (Op.equalIn (9999 + 1) t (.pointer (some ⟨b, 0, none⟩)) (.pointer (some ⟨b, 0, none⟩))).run P w = _
      rw [Op.equalIn]
      simp [run_underlying w ht, run_sizeOf w hz, run_sameAddr_same]
    simp [execOp, ho, hac.ev hx, hac.ev hy, eqGuard, binOp, hr]
theorem run_unsafeData {ts : Array TypeId} {ty : TypeId} {a : Addr} {m cap : Nat} (w : World) (hc : cap ≠ 0) : (Builtin.unsafeSliceData_ ts ty #[.slice (some a) m cap]).run P w = .ok (.pointer (some a)) w := by
  show Sem.run P (ite (cap ≠ 0) _ _) w = _
  rw [if_pos hc]; rfl
theorem X_unsafeData {x : Operand} {t : TypeId} {a : Addr} {m cap : Nat} (ho : o.op = .call ⟨.builtin .unsafeSliceData, #[x], #[t]⟩) (hx : ev E x = some (.slice (some a) m cap)) (hc : 0 < cap) : Exec P n o ⟨E, D, R, h⟩ (Is (.pointer (some a)) R h) :=
  Exec_is fun ac w ha => by
    simp [execOp, ho, resolve, invoke, builtin, ha.ev hx, run_unsafeData w (show cap ≠ 0 by omega)]
theorem X_unsafeDataN {x : Operand} {t : TypeId} {m cap : Nat} (ho : o.op = .call ⟨.builtin .unsafeSliceData, #[x], #[t]⟩) (hx : ev E x = some (.slice none m cap)) : Exec P n o ⟨E, D, R, h⟩ (Is (.pointer none) R h) :=
  Exec_is fun ac w ha => by
    have hr : ∀ ty, (Builtin.unsafeSliceData_ #[t] ty #[.slice none m cap]).run P w = .ok (.pointer none) w := fun _ => rfl
    simp [execOp, ho, resolve, invoke, builtin, ha.ev hx, hr]
theorem X_unsafeStringN {x y : Operand} {t u : TypeId} (ho : o.op = .call ⟨.builtin .unsafeString, #[x, y], #[t, u]⟩) (hx : ev E x = some (.pointer none)) (hy : ev E y = some (.int .i64 0)) : Exec P n o ⟨E, D, R, h⟩ (Is (.string ⟨#[]⟩) R h) :=
  Exec_is fun ac w ha => by
    have hr : ∀ ty, (Builtin.unsafeString_ #[t, u] ty #[.pointer none, .int .i64 0]).run P w = .ok (.string ⟨#[]⟩) w := fun _ => rfl
    simp [execOp, ho, resolve, invoke, builtin, ha.ev hx, ha.ev hy, hr]
def encB8 (b : UInt8) : List Value := [.int .u8 b.toNat]
theorem bytesV_eq (s : ByteArray) : bytesV s = s.data.toList.flatMap encB8 := by
  unfold bytesV
  induction s.data.toList with
  | nil => rfl
  | cons b l ih => simp only [List.map_cons, List.flatMap_cons, ih]; rfl
theorem run_loadBytes {w : World} {b : Nat} {c : List Value} {t : TypeId} (hb : w.heap[b]? = some (.cells c.toArray t (0, 0))) : ∀ (L : List UInt8) (off : Nat) (acc : ByteArray), (∀ j (hj : j < L.length), c[off + j]? = some (.int .u8 (L[j].toNat))) →
    (loadBytes ⟨b, off, none⟩ acc L.length).run P w = .ok ⟨acc.data ++ L.toArray⟩ w
  | [], off, acc, _ => by simp only [loadBytes, List.length_nil, Sem.run_pure]; cases acc; simp
  | x :: L, off, acc, h => by
    have h0 := h 0 (by simp)
    simp only [Nat.add_zero, List.getElem_cons_zero] at h0
    have hld : (load ⟨b, off, none⟩).run P w = .ok (.int .u8 x.toNat) w := by
      have hc : w.cell? ⟨b, off, none⟩ = some (.int .u8 x.toNat) := by simp [World.cell?, hb, h0]
      simp [hc]
    have ih := run_loadBytes hb L (off + 1) (acc.push x) (fun j hj => by have := h (j + 1) (by simpa using hj); rw [show off + 1 + j = off + (j + 1) from by omega]; simpa using this)
    simp only [List.length_cons, loadBytes, Sem.run_bind, hld, Result.andThen_ok]
    simp only [Int.toNat_natCast]
    have e1 : x.toNat.toUInt8 = x := by simp
    rw [e1]
    have e2 : (⟨b, off, none⟩ : Addr).add 1 = ⟨b, off + 1, none⟩ := rfl
    rw [e2, ih]
    cases acc with
    | mk d => simp [ByteArray.push]
/-- A row's bytes as a string; the row is given up. -/
theorem X_unsafeString {x y : Operand} {t u e0 : TypeId} {i b m d1 : Nat} {c : List Value} {L : List UInt8} (ho : o.op = .call ⟨.builtin .unsafeString, #[x, y], #[t, u]⟩) (ht : P.underlying t = some (.pointer e0)) (hx : ev E x = some (.pointer (some ⟨b, 0, none⟩))) (hy : ev E y = some (.int .i64 (m : Int)))
    (hi : R[i]? = some (blk b c e0)) (hm : m = L.length) (h0 : 0 < m) (hc : c.take m = L.flatMap encB8) (hcm : m ≤ c.length) (hmx : m ≤ 9223372036854775807) (hd : P.depth = d1 + 1) (hs : P.cellsOf e0 = 1) (hl : sameLayout P P.depth e0 e0 = true) :
    Exec P n o ⟨E, D, R, h⟩ (Ret fun v R' h' => v = .string ⟨L.toArray⟩ ∧ R' = R.eraseIdx i ∧ h' = h) := by
  refine Exec_of_run fun κ h0 f a w _ ha hw => ?_
  have hb := hw.obj_at hi
  subst hm
  have hget : ∀ j (hj : j < L.length), c[0 + j]? = some (.int .u8 (L[j].toNat)) := fun j hj => by
    have e1 : (c.take L.length)[j]? = (L.flatMap encB8)[j]? := by rw [hc]
    rw [List.getElem?_take, if_pos hj] at e1
    have e2 := flat_get' (enc := encB8) (sz := 1) L (fun _ _ => rfl) j hj 0 (by decide)
    rw [Nat.mul_one, Nat.add_zero] at e2
    rw [Nat.zero_add, e1, e2]; rfl
  have hlb := run_loadBytes (P := P) hb L 0 .empty hget
  have hva : (variablesAt ⟨b, 0, none⟩ e0 L.length).run P w = .ok true w := by
    have hli : liesAt P P.depth e0 (c.length / P.cellsOf e0) 0 e0 L.length = true := by
      have hr : rowAt P (sameLayout P P.depth · e0) P.depth e0 (c.length / P.cellsOf e0) 0 L.length = true := by
        rw [hd, rowAt, ← hd]
        simp [hs, hl, hcm]
      rw [hd, liesAt]
      rw [hr]; rfl
    simp only [variablesAt, Sem.run_bind, run_program, Result.andThen_ok, run_shape, shape_of hb, hli, Sem.run_pure]
  have hfz : (freeze ⟨b, 0, none⟩ L.length).run P w = .ok () (w.freeze ⟨b, 0, none⟩ L.length) := rfl
  have hfw : ∃ o', (w.freeze ⟨b, 0, none⟩ L.length).heap[b]? = some o' ∧ (w.freeze ⟨b, 0, none⟩ L.length).heap.size = w.heap.size ∧ (w.freeze ⟨b, 0, none⟩ L.length).os = w.os ∧ (w.freeze ⟨b, 0, none⟩ L.length).tape = w.tape ∧ (w.freeze ⟨b, 0, none⟩ L.length).output = w.output ∧ ∀ b' : Nat, b' ≠ b → (w.freeze ⟨b, 0, none⟩ L.length).heap[b']? = w.heap[b']? := by
    have hn0 : L.length ≠ 0 := by omega
    unfold World.freeze
    rw [if_neg hn0]
    refine ⟨.cells c.toArray e0 (0, L.length), ?_, ?_, rfl, rfl, rfl, ?_⟩
    · simp [Array.getElem?_modify, hb]
    · simp
    · intro b' hne
      simp [Array.getElem?_modify, Ne.symm hne]
  obtain ⟨o', f1, f2, f3, f4, f5, f6⟩ := hfw
  have hst := hw.turn (i := i) (o' := o') hi f2 f3 f4 f5 f1 f6
  have hdrop := hst.drop (i := i)
  refine ⟨.string ⟨L.toArray⟩, _, h, w.freeze ⟨b, 0, none⟩ L.length, .inl ?_, le.refl _, hdrop, rfl, ?_, rfl⟩
  · have hn0 : ¬ ((L.length : Int) < 0) := by omega
    have hmx' : ¬ ((L.length : Int) > IntKind.i64.max) := by
      rw [show IntKind.i64.max = 9223372036854775807 from rfl]; omega
    have hne0 : ¬ ((L.length : Int) = 0) := by omega
    have hel : (elemOf t).run P w = .ok e0 w := by simp [elemOf, run_underlying w ht]
    have hr : ∀ ty, (Builtin.unsafeString_ #[t, u] ty #[.pointer (some ⟨b, 0, none⟩), .int .i64 (L.length : Int)]).run P w = .ok (.string ⟨L.toArray⟩) (w.freeze ⟨b, 0, none⟩ L.length) := fun ty => by
      change Sem.run P ((asInt (.int .i64 (L.length : Int))) >>= fun n => _) w = _
      have h1 : (asInt (.int .i64 (L.length : Int))).run P w = .ok (L.length : Int) w := rfl
      rw [Sem.run_bind, h1, Result.andThen_ok]
      change Sem.run P (ite ((L.length : Int) < 0) _ _) w = _
      rw [if_neg hn0]
      change Sem.run P (ite ((L.length : Int) > IntKind.i64.max) _ _) w = _
      rw [if_neg hmx']
      change Sem.run P (ite ((L.length : Int) = 0) _ _) w = _
      rw [if_neg hne0]
      change Sem.run P (elemOf t >>= fun e => _) w = _
      rw [Sem.run_bind, hel, Result.andThen_ok]
      change Sem.run P (variablesAt ⟨b, 0, none⟩ e0 (L.length : Int).toNat >>= fun e => _) w = _
      rw [Int.toNat_natCast, Sem.run_bind, hva, Result.andThen_ok]
      change Sem.run P (loadBytes ⟨b, 0, none⟩ .empty (L.length : Int).toNat >>= fun e => _) w = _
      rw [Int.toNat_natCast, Sem.run_bind, hlb, Result.andThen_ok]
      change Sem.run P (freeze ⟨b, 0, none⟩ (L.length : Int).toNat >>= fun e => _) w = _
      rw [Int.toNat_natCast, Sem.run_bind, hfz, Result.andThen_ok]
      simp
    simp [execOp, ho, resolve, invoke, builtin, ha.ev hx, ha.ev hy, hr]
  · simp only [List.eraseIdx_set_eq]
end
end Go.Par
