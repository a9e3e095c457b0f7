/- Engine: strings cut, joined, copied; the lesser of two. It speaks of no program. -/
import Derived.Test.YthcolbdlalpcjaaEngR
namespace Go.Par
open Go PH
def bytesV (s : ByteArray) : List Value := s.data.toList.map fun b => .int .u8 b.toNat
theorem bytesV_len (s : ByteArray) : (bytesV s).length = s.size := by simp [bytesV]
theorem bytesV_flat (s : ByteArray) : (bytesV s).all flat = true := by
  rw [List.all_eq_true]; intro x hx
  simp only [bytesV, List.mem_map] at hx
  obtain ⟨b, _, rfl⟩ := hx; rfl
section
variable {P : Program} {n : Nat} {ops : Array Oper} {l : List Oper} {o : Oper} {E : Env} {D : List Deferred} {R : List SL} {h : PH} {K : S → Prop} {Q : Exit → S → Prop}
theorem X_sliceS_hi {x y : Operand} {t : TypeId} {s : ByteArray} {k : IntKind} {j : Int} (ho : o.op = .slice t x none (some y) none) (ht : P.underlying t = some .string) (hx : ev E x = some (.string s)) (hy : ev E y = some (.int k j)) (h0 : 0 ≤ j) (h1 : j ≤ s.size) :
    Exec P n o ⟨E, D, R, h⟩ (Is (.string (s.extract 0 j.toNat)) R h) :=
  Exec_is fun a w ha => by
    have h2 : j.toNat ≤ s.size := by omega
    simp [execOp, ho, ha.ev hx, ha.ev hy, Instr.sliceAt, Instr.slice, Instr.sliceBounds, Instr.sliceBound, asIntOf, run_underlying w ht, h0, h1]
theorem X_sliceS_lo {x y : Operand} {t : TypeId} {s : ByteArray} {k : IntKind} {j : Int} (ho : o.op = .slice t x (some y) none none) (ht : P.underlying t = some .string) (hx : ev E x = some (.string s)) (hy : ev E y = some (.int k j)) (h0 : 0 ≤ j) (h1 : j ≤ s.size) :
    Exec P n o ⟨E, D, R, h⟩ (Is (.string (s.extract j.toNat s.size)) R h) :=
  Exec_is fun a w ha => by
    simp [execOp, ho, ha.ev hx, ha.ev hy, Instr.sliceAt, Instr.slice, Instr.sliceBounds, Instr.sliceBound, asIntOf, run_underlying w ht, h0, h1]
theorem X_sliceS {x y z : Operand} {t : TypeId} {s : ByteArray} {k k2 : IntKind} {i j : Int} (ho : o.op = .slice t x (some y) (some z) none) (ht : P.underlying t = some .string) (hx : ev E x = some (.string s)) (hy : ev E y = some (.int k i)) (hz : ev E z = some (.int k2 j)) (h0 : 0 ≤ i) (h1 : i ≤ j) (h2 : j ≤ s.size) :
    Exec P n o ⟨E, D, R, h⟩ (Is (.string (s.extract i.toNat j.toNat)) R h) :=
  Exec_is fun a w ha => by
    have h3 : 0 ≤ j := by omega
    have h4 : i ≤ (j.toNat : Int) := by omega
    obtain ⟨i, rfl⟩ := Int.eq_ofNat_of_zero_le h0
    obtain ⟨j, rfl⟩ := Int.eq_ofNat_of_zero_le h3
    have h5 : i ≤ j := by omega
    have h6 : j ≤ s.size := by omega
    simp [execOp, ho, ha.ev hx, ha.ev hy, ha.ev hz, Instr.sliceAt, Instr.slice, Instr.sliceBounds, Instr.sliceBound, asIntOf, run_underlying w ht, h5, h6]
theorem X_addS {x y : Operand} {t u : TypeId} {a b : ByteArray} (ho : o.op = .binOp .add t x y u) (hx : ev E x = some (.string a)) (hy : ev E y = some (.string b)) (hb : (a.size : Int) + b.size ≤ 9223372036854775807) :
    Exec P n o ⟨E, D, R, h⟩ (Is (.string (a ++ b)) R h) :=
  Exec_is fun ac w ha => by
    have h1 : ¬ (((a.size + b.size : Nat) : Int) > IntKind.i64.max) := by rw [show IntKind.i64.max = 9223372036854775807 from rfl]; omega
    simp only [execOp, ho, ha.ev hx, ha.ev hy, binOp, Op.stringOp, h1, if_false]
    simp [eqGuard]
theorem X_neS_c {t u : TypeId} {x y : Operand} {a b : ByteArray} {c : Bool} (ho : o.op = .binOp .neq t x y u) (hx : ev E x = some (.string a)) (hy : ev E y = some (.string b)) (hc : (a == b) = c) : Exec P n o ⟨E, D, R, h⟩ (Is (.bool (!c)) R h) := by
  subst hc; exact X_neS ho hx hy
theorem X_min {x y : Operand} {t u : TypeId} {k k2 : IntKind} {a b : Int} (ho : o.op = .call ⟨.builtin .min, #[x, y], #[t, u]⟩) (hx : ev E x = some (.int k a)) (hy : ev E y = some (.int k2 b)) : Exec P n o ⟨E, D, R, h⟩ (Is (.int k (min a b)) R h) :=
  Exec_is fun ac w ha => by
    have e : (if b < a then b else a) = min a b := by rw [Int.min_def]; split <;> split <;> omega
    simp [execOp, ho, resolve, invoke, builtin, Builtin.min_, Builtin.min2, ha.ev hx, ha.ev hy, e]
theorem X_max {x y : Operand} {t u : TypeId} {k k2 : IntKind} {a b : Int} (ho : o.op = .call ⟨.builtin .max, #[x, y], #[t, u]⟩) (hx : ev E x = some (.int k a)) (hy : ev E y = some (.int k2 b)) : Exec P n o ⟨E, D, R, h⟩ (Is (.int k (max a b)) R h) :=
  Exec_is fun ac w ha => by
    have e : (if a < b then b else a) = max a b := by rw [Int.max_def]; split <;> split <;> omega
    simp [execOp, ho, resolve, invoke, builtin, Builtin.max_, Builtin.max2, ha.ev hx, ha.ev hy, e]
/-- An array's rest as a slice. -/
theorem X_sliceArrLo {x y : Operand} {t e : TypeId} {b len sz : Nat} {j : Int} {k : IntKind} (ho : o.op = .slice t x (some y) none none) (ht : arOf P t = some (len, e)) (hs : szOf P e = some sz) (hx : ev E x = some (.pointer (some ⟨b, 0, none⟩))) (hy : ev E y = some (.int k j)) (h0 : 0 ≤ j) (h1 : j ≤ len) :
    Exec P n o ⟨E, D, R, h⟩ (Is (.slice (some ⟨b, if len = j.toNat then 0 else j.toNat * sz, none⟩) (len - j.toNat) (len - j.toNat)) R h) :=
  Exec_is fun a w ha => by
    have e1 : a.eval x = .pointer (some ⟨b, 0, none⟩) := ha.ev hx
    obtain ⟨j, rfl⟩ := Int.eq_ofNat_of_zero_le h0
    have h1' : j ≤ len := by omega
    simp only [execOp, ho, e1]
    by_cases hj : len = j
    · simp [ha.ev hy, Instr.sliceAt, Instr.sliceBounds, Instr.sliceBound, asIntOf, run_underlying w (arOf_under ht), run_sizeOf w hs, add_spot, hj, Instr.sureAddr]
    · simp [ha.ev hy, Instr.sliceAt, Instr.sliceBounds, Instr.sliceBound, asIntOf, run_underlying w (arOf_under ht), run_sizeOf w hs, add_spot, h1', hj, Instr.sureAddr]
/-- A string copied into a block of one's own. -/
theorem WL_copyS {d : Tmp} {x y : Operand} {t tx t0 e : TypeId} {b off m cap i : Nat} {c : List Value} {s : ByteArray} (ho : o.op = .call ⟨.builtin .copy, #[x, y], #[t, tx]⟩) (ht : slOf P t = some e) (hs : szOf P e = some 1)
    (hx : ev E x = some (.slice (some ⟨b, off, none⟩) m cap)) (hy : ev E y = some (.string s)) (hm : s.size ≤ m) (hi : R[i]? = some (blk b c t0)) (hc : off + s.size ≤ c.length) (hd : o.dst = some d) (hg : gd ops E o = some true) (hn : Nat.blt d n = true)
    (k : WL P n ops l ⟨(d, .int .i64 s.size) :: E, D, R.set i (blk b (wr c off (bytesV s)) t0), h⟩ K Q) : WL P n ops (o :: l) ⟨E, D, R, h⟩ K Q := by
  refine WL_any (A := fun v R' h' => v = .int .i64 s.size ∧ R' = R.set i (blk b (wr c off (bytesV s)) t0) ∧ h' = h) ?_ hd hg hn fun _ _ _ _ ⟨e0, e1, e2⟩ => by subst e0; subst e1; subst e2; exact k
  refine Exec_of_run fun κ h0 f a w _ ha hw => ?_
  have hb := hw.obj_at hi
  have hst := run_storeCells_at (P := P) (off := off) (i := 0) (vs := bytesV s) hb (by rw [bytesV_len]; omega) (bytesV_flat s)
  refine ⟨_, _, h, _, .inl ?_, le.refl _, hw.turnRow hi, rfl, rfl, rfl⟩
  simp only [Nat.add_zero] at hst
  have hmin : Nat.min s.size m = s.size := Nat.min_eq_left hm
  simp only [execOp, ho, resolve, invoke, builtin, Sem.run_bind, Sem.run_pure, Result.andThen_ok]
  have ex := ha.ev hx
  have ey := ha.ev hy
  simp [Builtin.copy_, ex, ey, run_underlying w (slOf_under ht), Builtin.lenOf, hmin, run_sizeOf w hs, Builtin.firstCells, goInt]
  have e6 : List.take s.size (List.map (fun b => Value.int .u8 b.toNat) s.data.toList) = bytesV s := by
    rw [List.take_of_length_le (by simp)]; rfl
  rw [e6, hst]; rfl
end
end Go.Par
