/- Facts on the program at hand that all walks use. -/
import Derived.Test.YtmohiefnoflndaaProg
import Derived.Test.YtmohiefnoflndaaEng
import Derived.KernelRfl
namespace Go.Proofs.Ytmohiefnoflndaa
set_option maxRecDepth 4000
open Go Go.Par PH
def heldTs : List Nat := [30, 33, 38, 52]
theorem heldOk : heldTs.all (fun t => !Try.prog.stoodInHeld t) = true := by kernel_rfl
theorem guardOk : heldTs.all (fun t => !Try.prog.eqGuardType Try.prog.depth t) = true := by kernel_rfl
end Go.Proofs.Ytmohiefnoflndaa
