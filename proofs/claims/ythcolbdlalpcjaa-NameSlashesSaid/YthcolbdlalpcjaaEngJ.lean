/- Engine, tenth text: parts of slices that are only read; append to nil in a drawn region. It speaks of no program. -/
import Derived.Test.YthcolbdlalpcjaaEngI
namespace Go.Par
open Go PH
section
variable {P : Program} {n : Nat} {o : Oper} {E : Env} {D : List Deferred} {R : List SL} {h : PH}
/-- The rest of a slice, from a place on. -/
theorem X_sliceLoG {x y : Operand} {t e : TypeId} {a : Option Addr} {len cap sz j : Nat} {k : IntKind} (ho : o.op = .slice t x (some y) none none) (ht : slOf P t = some e) (hs : szOf P e = some sz) (hx : ev E x = some (.slice a len cap)) (hy : ev E y = some (.int k (j : Int)))
    (h1 : j ≤ len) : Exec P n o ⟨E, D, R, h⟩ (Is (.slice (if cap = j then a else a.map (·.add (j * sz))) (len - j) (cap - j)) R h) :=
  Exec_is fun ac w ha => by
    simp [execOp, ho, ha.ev hx, ha.ev hy, Instr.sliceAt, Instr.slice, Instr.sliceBounds, Instr.sliceBound, asIntOf, run_underlying w (slOf_under ht), run_sizeOf w hs, h1]
/-- The beginning of a slice. -/
theorem X_sliceHiG {x y : Operand} {t e : TypeId} {a : Option Addr} {len cap sz j : Nat} {k : IntKind} (ho : o.op = .slice t x none (some y) none) (ht : slOf P t = some e) (hs : szOf P e = some sz) (hx : ev E x = some (.slice a len cap)) (hy : ev E y = some (.int k (j : Int)))
    (h1 : j ≤ cap) : Exec P n o ⟨E, D, R, h⟩ (Is (.slice (if cap = 0 then a else a.map (·.add (0 * sz))) j cap) R h) :=
  Exec_is fun ac w ha => by
    simp [execOp, ho, ha.ev hx, ha.ev hy, Instr.sliceAt, Instr.slice, Instr.sliceBounds, Instr.sliceBound, asIntOf, run_underlying w (slOf_under ht), run_sizeOf w hs, h1]
end
section
variable {α : Type} {enc : α → List Value} {sz : Nat} {h : PH} {a : Option Addr} {cap k : Nat} {L : List α}
theorem Sl.capLe (hv : Sl enc sz h (.slice a L.length cap) L) : L.length ≤ cap := by
  obtain ⟨_, a', cap', e, hc, _⟩ := hv
  injection e with e1 e2 e3
  omega
theorem Sl.from (hv : Sl enc sz h (.slice a L.length cap) L) (hk : k ≤ L.length) : Sl enc sz h (.slice (if cap = k then a else a.map (·.add (k * sz))) (L.length - k) (cap - k)) (L.drop k) := by
  obtain ⟨v', h1, a1, a2, cap1, e1, _, e2, e3⟩ := hv.cut (lo := k) (hi := L.length) hk (Nat.le_refl _)
  injection e1 with e1 _ e4
  subst e1; subst e4; subst e3; subst e2
  rw [List.take_length] at h1
  exact h1
theorem Sl.upto (hv : Sl enc sz h (.slice a L.length cap) L) (hk : k ≤ L.length) : Sl enc sz h (.slice (if cap = 0 then a else a.map (·.add (0 * sz))) k cap) (L.take k) := by
  obtain ⟨v', h1, a1, a2, cap1, e1, _, e2, e3⟩ := hv.cut (lo := 0) (hi := k) (Nat.zero_le _) hk
  injection e1 with e1 _ e4
  subst e1; subst e4; subst e3; subst e2
  exact h1
end
section
variable {P : Program} {n : Nat} {ops : Array Oper} {l : List Oper} {o : Oper} {E0 : Env} {D : List Deferred} {R : List SL} {h : PH} {K : Done → Prop} {i : Nat} {dn : Done}
/-- What an operation does, after a turn of what is owned. -/
theorem Exec_upd {E : Env} {R1 : List SL} {h1 : PH} {A : Post} (u : Upd R h R1 h1) (hl : le h h1) (H : Exec P n o ⟨E, D, R1, h1⟩ A) : Exec P n o ⟨E, D, R, h⟩ A := fun κ h0 f a w hf ha hw next Q k1 k2 =>
  H κ h0 f a w hf ha (u κ h0 f w hf hw) next Q (fun v R' h' w' hle hs hA => k1 v R' h' w' (hl.trans hle) hs hA) (fun ch R' h' w' hle hs hA => k2 ch R' h' w' (hl.trans hle) hs hA)
/-- append to nil. -/
theorem RG_append_nil {α : Type} {enc : α → List Value} {sz : Nat} {x y : Operand} {t tx e : TypeId} {by_ : Nat} {u : (Nat → Value) → Value} {L' : List α} {d : Tmp} (ho : o.op = .call ⟨.builtin .append, #[x, y], #[t, tx]⟩)
    (hx : ∀ vs, ev (av o.after.toList vs dn ++ E0) x = some (.slice none 0 0)) (hy : ∀ vs, ev (av o.after.toList vs dn ++ E0) y = some (u vs))
    (ht : ElemT P t e sz by_) (htx : slOf P tx = some e) (hsrc : ∀ vs h', le h h' → fc o.after.toList vs h' dn → Sl enc sz h' (u vs) L') (hfl : ∀ x ∈ L', (enc x).all flat = true)
    (hb : L'.length * by_ ≤ 140737488355328) (hm : L'.length ≤ 9223372036854775807) (hd : o.dst = some d) (hn : Nat.blt d n = true) (hg : ∀ vs, gd ops (av o.after.toList vs dn ++ E0) o = some true)
    (k : RG P n ops E0 D R h K (i + 1) l ((i, some d, .opq (fun _ _ => True) [] fun v' => [rowL enc v' e sz L']) :: dn)) : RG P n ops E0 D R h K i (o :: l) dn := by
  refine RG_gen (.opq (fun _ _ => True) [] fun v' => [rowL enc v' e sz L']) (fun _ _ _ _ _ => trivial) hd hn hg ?_ k
  intro vs h' hl hf
  refine Exec_upd (Upd.nilrow (e := e) (sz := sz)) (le.refl _) ?_
  refine (X_appendO (enc := enc) (L := []) (R := row (.slice none 0 0) e sz 0 [] :: R) (i := 0) ho (hx vs) (hy vs) ht htx rfl (Src.sl (hsrc vs h' hl hf)) hfl (by simpa using hb) (by simpa using hm)).mono ?_
  rintro e R' h'' - hA
  cases e with
  | returned v' => exact ⟨v', rfl, trivial, by rw [hA.1]; exact SubR.refl _⟩
  | panicked ch => exact hA.elim
  | outgrown => exact hA.elim
end
end Go.Par
