/- Facts on the program at hand that all walks use. -/
import Derived.Test.YtligadbnoiibnaaProg
import Derived.Test.YtligadbnoiibnaaEng
import Derived.KernelRfl
namespace Go.Proofs.Ytligadbnoiibnaa
open Go Go.Par PH
def heldTs : List Nat := [25, 28, 31, 67, 75, 84]
theorem heldOk : heldTs.all (fun t => !Try.prog.stoodInHeld t) = true := by kernel_rfl
theorem guardOk : heldTs.all (fun t => !Try.prog.eqGuardType Try.prog.depth t) = true := by kernel_rfl
end Go.Proofs.Ytligadbnoiibnaa
