/- Facts on the program at hand that all walks use. -/
import Derived.Test.YtcgmbfgmofcemaaProg
import Derived.Test.YtcgmbfgmofcemaaEng
import Derived.KernelRfl
namespace Go.Proofs.Ytcgmbfgmofcemaa
set_option maxRecDepth 4000
open Go Go.Par PH
def heldTs : List Nat := [25, 28, 31, 53, 63, 71]
theorem heldOk : heldTs.all (fun t => !Try.prog.stoodInHeld t) = true := by kernel_rfl
theorem guardOk : heldTs.all (fun t => !Try.prog.eqGuardType Try.prog.depth t) = true := by kernel_rfl
end Go.Proofs.Ytcgmbfgmofcemaa
