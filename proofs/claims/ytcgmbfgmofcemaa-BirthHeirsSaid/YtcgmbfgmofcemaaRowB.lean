/- What every row needs. -/
import Derived.Test.YtcgmbfgmofcemaaLawN
import Derived.Test.YtcgmbfgmofcemaaOpen
import Derived.Test.YtcgmbfgmofcemaaRows
import Derived.Test.YtcgmbfgmofcemaaChecked
namespace Go.Proofs.Ytcgmbfgmofcemaa
set_option maxRecDepth 4000
open Go Go.Par Go.ChangeShapes Go.WideShapes Go.ChangeAt Go.RowKit
theorem own_ : ownKnob Try.prog.godebug = none := by kernel_rfl
theorem laid_ : laidOutB Try.prog = true := by kernel_rfl
end Go.Proofs.Ytcgmbfgmofcemaa
