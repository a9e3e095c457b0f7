/- Engine, fourth text: cuts. It speaks of no program. -/
import Derived.Test.YthcolbdlalpcjaaEngC
namespace Go.Par
open Go PH
/-- What follows is walked once, from whatever the code ahead of it may leave. -/
theorem W_cutT {P : Program} {n : Nat} {X : Type} {x y : Code} {s : S} {Q Q' : Exit → S → Prop} (L : X → S) (p : X → Prop) (h : W P n x s (Then (fun s' => ∃ i, Sub s' (L i) ∧ p i) Q)) (k : ∀ i, p i → W P n y (L i) Q') : W P n x s (Then (fun s' => W P n y s' Q') Q) :=
  W_mono h fun e s' h' => by
    cases e with
    | normal => obtain ⟨i, hs, hp⟩ := h'; exact W_weaken hs (k i hp)
    | _ => exact h'
section
variable {P : Program} {n : Nat} {o : Oper} {E : Env} {D : List Deferred} {R : List SL} {h : PH}
/-- An element of an array that is held as a row. -/
theorem X_index_arrspot {x y : Operand} {t e : TypeId} {b len sz j : Nat} {k : IntKind} (ho : o.op = .indexAddr t x y) (ht : arOf P t = some (len, e)) (hs : szOf P e = some sz)
    (hx : ev E x = some (.pointer (some ⟨b, 0, none⟩))) (hy : ev E y = some (.int k (j : Int))) (h1 : j < len) :
    Exec P n o ⟨E, D, R, h⟩ (Is (.pointer (some ⟨b, spot j sz 0, none⟩)) R h) := X_index_arr ho ht hs hx hy (by omega) (by omega) (by rw [spot_eq]; simp)
end
end Go.Par
