/- Walks: Add of numbers of unlike signs; Sub. -/
import Derived.Test.YtfcpmcdlgkfolaaDoorZsBigD
namespace Go.Proofs.YtfcpmcdlgkfolaaDoor.Big
open Go.RowKit

end Go.Proofs.YtfcpmcdlgkfolaaDoor.Big
