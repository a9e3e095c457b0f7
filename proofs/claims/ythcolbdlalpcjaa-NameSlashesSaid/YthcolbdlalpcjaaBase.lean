/- Facts on the program at hand that all walks use. -/
import Derived.Test.YthcolbdlalpcjaaProg
import Derived.Test.YthcolbdlalpcjaaEng
import Derived.KernelRfl
namespace Go.Proofs.Ythcolbdlalpcjaa
set_option maxRecDepth 4000
open Go Go.Par PH
def heldTs : List Nat := [29]
theorem heldOk : heldTs.all (fun t => !Try.prog.stoodInHeld t) = true := by kernel_rfl
theorem guardOk : heldTs.all (fun t => !Try.prog.eqGuardType Try.prog.depth t) = true := by kernel_rfl
end Go.Proofs.Ythcolbdlalpcjaa
