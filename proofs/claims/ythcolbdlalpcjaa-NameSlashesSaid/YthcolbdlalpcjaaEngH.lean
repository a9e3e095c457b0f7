/- Engine, eighth text: strings. It speaks of no program. -/
import Derived.Test.YthcolbdlalpcjaaEngG
import Derived.Laws.Externs
import Derived.Lib.Bytealg
namespace Go.Par
open Go PH
def strGe (a b : ByteArray) : Bool := !(Op.bytesLess a.toList b.toList)
section
variable {P : Program} {n : Nat} {o : Oper} {E : Env} {D : List Deferred} {R : List SL} {h : PH}
theorem X_geS {t u : TypeId} {x y : Operand} {a b : ByteArray} (ho : o.op = .binOp .geq t x y u) (hx : ev E x = some (.string a)) (hy : ev E y = some (.string b)) : Exec P n o ⟨E, D, R, h⟩ (Is (.bool (strGe a b)) R h) :=
  Exec_is fun ac w ha => by
    simp [execOp, ho, ha.ev hx, ha.ev hy, eqGuard, binOp, Op.stringOp, strGe]
theorem X_geS_c {t u : TypeId} {x y : Operand} {a b : ByteArray} {c : Bool} (ho : o.op = .binOp .geq t x y u) (hx : ev E x = some (.string a)) (hy : ev E y = some (.string b)) (hc : strGe a b = c) : Exec P n o ⟨E, D, R, h⟩ (Is (.bool c) R h) := by
  subst hc; exact X_geS ho hx hy
theorem X_eqS_c {t u : TypeId} {x y : Operand} {a b : ByteArray} {c : Bool} (ho : o.op = .binOp .eql t x y u) (hx : ev E x = some (.string a)) (hy : ev E y = some (.string b)) (hc : (a == b) = c) : Exec P n o ⟨E, D, R, h⟩ (Is (.bool c) R h) := by
  subst hc; exact X_eqS ho hx hy
/-- A part of an array that is a row of cells itself. -/
theorem X_index_valA {x y : Operand} {t e : TypeId} {len sz off : Nat} {k : IntKind} {j : Int} {cs vs : List Value} (ho : o.op = .index t x y) (ht : arOf P t = some (len, e)) (hs : szOf P e = some sz) (he : isA P e = some true)
    (hx : ev E x = some (.agg cs.toArray)) (hy : ev E y = some (.int k j)) (h0 : 0 ≤ j) (h1 : j < len) (hoff : j.toNat * sz = off) (hv : (cs.drop off).take sz = vs) :
    Exec P n o ⟨E, D, R, h⟩ (Is (.agg vs.toArray) R h) :=
  Exec_is fun a w ha => by
    subst hoff; subst hv
    simp [execOp, ho, ha.ev hx, ha.ev hy, Instr.index, asIntOf, run_underlying w (arOf_under ht), run_sizeOf w hs, h0, h1, part, run_isAgg w he]
/-- The library's own search for a byte, which has no body. -/
theorem X_indexByteStr {fo : Operand} {xs : Array Operand} {tys : Array TypeId} {f : FuncId} {fn : Func} {s : ByteArray} {c : Int} (ho : o.op = .call ⟨.value fo, xs, tys⟩) (hfo : ev E fo = some (.func (.func f) #[] #[]))
    (hxs : evs E xs.toList = some [.string s, .int .u8 c]) (hfn : P.funcs[f]? = some fn) (hnm : (fn.name == "runtime.NumGoroutine") = false) (hb : fn.body.isNone = true) (hn : Extern.findNext fn = none)
    (he : Extern.find fn = some Extern.BytealgIndexByte.indexByte) : Exec P n o ⟨E, D, R, h⟩ (Is (.int .i64 (Lib.indexByte s.data.toList c.toNat.toUInt8)) R h) :=
  Exec_is fun a w ha => by
    have e1 : xs.map a.eval = #[.string s, .int .u8 c] := map_arr (ha.evs hxs)
    simp only [execOp, ho, resolve, Deferred.ofValue, ha.ev hfo, e1, Sem.run_bind, Sem.run_pure, Result.andThen_ok, invoke, Array.append_empty, Array.empty_append]
    rw [run_callFunc_extern hfn hnm hb hn he, Lib.run_indexByteString]; rfl
end
theorem indexByte_mem {c : UInt8} : ∀ {l : List UInt8}, 0 ≤ Lib.indexByte l c ↔ c ∈ l
  | [] => by simp [Lib.indexByte]
  | b :: l => by
    have ih := indexByte_mem (c := c) (l := l)
    have hge := Lib.indexByte_ge l c
    unfold Lib.indexByte
    by_cases hb : b = c
    · subst hb; simp
    · have hb' : (b == c) = false := by simpa using hb
      have hb2 : ¬ c = b := fun e => hb e.symm
      simp only [hb', Bool.false_eq_true, if_false, List.mem_cons, hb2, false_or, ← ih]
      by_cases h1 : Lib.indexByte l c = -1
      · rw [h1]; decide
      · have : (Lib.indexByte l c == -1) = false := by simpa using h1
        rw [this]; simp; omega
theorem beqB (a : ByteArray) : (a == a) = true := by rw [beq_toListBytes]; simp
theorem nat_and7 (a : Nat) : a &&& 7 = a % 8 := by
  have := Nat.and_two_pow_sub_one_eq_mod a 3
  simpa using this
theorem u16_and7 (x : Int) (h0 : 0 ≤ x) (h1 : x < 65536) : bits .and .u16 x 7 = x % 8 := by
  rw [u16_and x 7 h0 h1 (by omega) (by omega)]
  have e : (7 : Int).toNat = 7 := rfl
  rw [e, nat_and7]; omega
theorem u16_andNot_ok {a b : Int} (h1 : 0 ≤ a) (h2 : a < 65536) (h3 : 0 ≤ b) (h4 : b < 65536) : 0 ≤ bits .andNot .u16 a b ∧ bits .andNot .u16 a b ≤ 65535 := by
  rw [u16_andNot a b h1 h2 h3 h4]
  have : a.toNat &&& (65535 - b.toNat) ≤ a.toNat := Nat.and_le_left
  omega
theorem byte_back (c : UInt8) : ((c.toNat : Int)).toNat.toUInt8 = c := by simp
theorem byte_zero {c : UInt8} : (c.toNat : Int) = 0 ↔ c = 0 := by
  constructor
  · intro h
    have : c.toNat = 0 := by omega
    exact UInt8.toNat_inj.1 (by simpa using this)
  · rintro rfl; rfl
end Go.Par
