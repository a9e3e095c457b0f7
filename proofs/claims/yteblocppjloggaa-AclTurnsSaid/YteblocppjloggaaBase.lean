/- Facts on the program at hand that all walks use. -/
import Derived.Test.YteblocppjloggaaProg
import Derived.Test.YteblocppjloggaaEng
import Derived.KernelRfl
namespace Go.Proofs.Yteblocppjloggaa
open Go Go.Par PH
def heldTs : List Nat := [24, 40]
theorem heldOk : heldTs.all (fun t => !Try.prog.stoodInHeld t) = true := by kernel_rfl
theorem guardOk : heldTs.all (fun t => !Try.prog.eqGuardType Try.prog.depth t) = true := by kernel_rfl
end Go.Proofs.Yteblocppjloggaa
