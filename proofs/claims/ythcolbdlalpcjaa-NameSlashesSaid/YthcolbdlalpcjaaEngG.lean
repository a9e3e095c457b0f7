/- Engine, seventh text: what hangs on what is known in a drawn region. It speaks of no program. -/
import Derived.Test.YthcolbdlalpcjaaEngF
namespace Go.Par
open Go PH
section
variable {P : Program} {n : Nat} {ops : Array Oper} {o : Oper} {E0 : Env} {D : List Deferred} {R : List SL} {h : PH} {K : Done → Prop} {i : Nat} {l : List Oper} {dn : Done}
/-- A value that follows from what is known of values before. -/
theorem RG_valO {d : Tmp} (v : Value) (hd : o.dst = some d) (hn : Nat.blt d n = true) (hg : ∀ vs, gd ops (av o.after.toList vs dn ++ E0) o = some true)
    (hx : ∀ vs h', le h h' → fc o.after.toList vs h' dn → Exec P n o ⟨av o.after.toList vs dn ++ E0, D, R, h'⟩ (Is v R h'))
    (k : RG P n ops E0 D R h K (i + 1) l ((i, some d, .val v) :: dn)) : RG P n ops E0 D R h K i (o :: l) dn := by
  refine RG_gen (.val v) trivial hd hn hg ?_ k
  intro vs h' hl hf
  refine (hx vs h' hl hf).mono ?_
  rintro e R' h'' _ ⟨rfl, rfl, rfl⟩
  exact ⟨v, rfl, rfl, SubR.refl _⟩
end
end Go.Par
