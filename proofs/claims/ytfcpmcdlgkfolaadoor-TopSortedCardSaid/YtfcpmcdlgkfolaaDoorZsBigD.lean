/- Walks: Add, Sub. -/
import Derived.Test.YtfcpmcdlgkfolaaDoorZsBigF
import Derived.Deep.RegionLaw
namespace Go.Proofs.YtfcpmcdlgkfolaaDoor.Big
open Go.RowKit

end Go.Proofs.YtfcpmcdlgkfolaaDoor.Big
