/- What every row needs. -/
import Derived.Test.YtoocbfpomamdeaaLawN
import Derived.Test.YtoocbfpomamdeaaOpen
import Derived.Test.YtoocbfpomamdeaaRows
import Derived.Test.YtoocbfpomamdeaaChecked
namespace Go.Proofs.Ytoocbfpomamdeaa
set_option maxRecDepth 4000
open Go Go.Par Go.ChangeShapes Go.WideShapes Go.ChangeAt Go.RowKit
theorem own_ : ownKnob Try.prog.godebug = none := by kernel_rfl
theorem laid_ : laidOutB Try.prog = true := by kernel_rfl
end Go.Proofs.Ytoocbfpomamdeaa
