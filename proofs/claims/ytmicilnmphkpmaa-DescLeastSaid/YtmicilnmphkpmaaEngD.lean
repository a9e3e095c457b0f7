/- Engine, fourth text: cuts. It speaks of no program. -/
import Derived.Test.YtmicilnmphkpmaaEngC
namespace Go.Par
open Go PH
/-- What follows is walked once, from whatever the code ahead of it may leave. -/
theorem W_cutT {P : Program} {n : Nat} {X : Type} {x y : Code} {s : S} {Q Q' : Exit → S → Prop} (L : X → S) (p : X → Prop) (h : W P n x s (Then (fun s' => ∃ i, Sub s' (L i) ∧ p i) Q)) (k : ∀ i, p i → W P n y (L i) Q') : W P n x s (Then (fun s' => W P n y s' Q') Q) :=
  W_mono h fun e s' h' => by
    cases e with
    | normal => obtain ⟨i, hs, hp⟩ := h'; exact W_weaken hs (k i hp)
    | _ => exact h'
end Go.Par
