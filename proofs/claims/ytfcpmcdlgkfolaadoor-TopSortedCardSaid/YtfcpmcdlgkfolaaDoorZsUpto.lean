/- What the bound of the second form gives: no slice that comes in is longer than it. -/
import Derived.Test.YtfcpmcdlgkfolaaDoorZsFrame
import Derived.Test.YtfcpmcdlgkfolaaDoorRows
import Derived.Deep.CondSized
namespace Go.Proofs.YtfcpmcdlgkfolaaDoor
open Go.RowKit Go.ChangeShapes Go.WideShapes Go.ChangeAt

end Go.Proofs.YtfcpmcdlgkfolaaDoor
