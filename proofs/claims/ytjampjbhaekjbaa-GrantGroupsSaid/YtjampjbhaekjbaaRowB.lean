/- What every row needs. -/
import Derived.Test.YtjampjbhaekjbaaLawN
import Derived.Test.YtjampjbhaekjbaaOpen
import Derived.Test.YtjampjbhaekjbaaRows
import Derived.Test.YtjampjbhaekjbaaChecked
namespace Go.Proofs.Ytjampjbhaekjbaa
open Go Go.Par Go.ChangeShapes Go.WideShapes Go.ChangeAt Go.RowKit
theorem own_ : ownKnob Try.prog.godebug = none := by kernel_rfl
theorem laid_ : laidOutB Try.prog = true := by kernel_rfl
end Go.Proofs.Ytjampjbhaekjbaa
