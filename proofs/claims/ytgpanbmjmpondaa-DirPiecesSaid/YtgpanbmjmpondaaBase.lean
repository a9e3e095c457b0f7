/- Facts on the program at hand that all walks use. -/
import Derived.Test.YtgpanbmjmpondaaProg
import Derived.Test.YtgpanbmjmpondaaEng
import Derived.KernelRfl
namespace Go.Proofs.Ytgpanbmjmpondaa
set_option maxRecDepth 4000
open Go Go.Par PH
def heldTs : List Nat := [25, 32, 34, 57, 59, 67]
theorem heldOk : heldTs.all (fun t => !Try.prog.stoodInHeld t) = true := by kernel_rfl
theorem guardOk : heldTs.all (fun t => !Try.prog.eqGuardType Try.prog.depth t) = true := by kernel_rfl
end Go.Proofs.Ytgpanbmjmpondaa
