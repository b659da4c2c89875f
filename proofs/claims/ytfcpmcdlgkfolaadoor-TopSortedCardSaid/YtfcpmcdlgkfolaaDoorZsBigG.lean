/- Walk: Mul, the walk. -/
import Derived.Test.YtfcpmcdlgkfolaaDoorZsBigF
import Derived.Test.YtfcpmcdlgkfolaaDoorZsBigD
import Derived.StillTailTactics
namespace Go.Proofs.YtfcpmcdlgkfolaaDoor.Big
open Go.RowKit

end Go.Proofs.YtfcpmcdlgkfolaaDoor.Big
