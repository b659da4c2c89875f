/- append of a whole slice of integers to an empty one: a copy. As an operation of a list, and of a region that draws. -/
import Derived.Test.YtfcpmcdlgkfolaaDoorZsBigW
import Derived.Deep.RegionLawGrows
import Derived.Outline
import Derived.BigQuiet
import Derived.Deep.QuietTactic
import Derived.Laws.BitsAllLaws
import Derived.Laws.Bits64
namespace Go.Proofs.YtfcpmcdlgkfolaaDoor.Big
open Go.RowKit

end Go.Proofs.YtfcpmcdlgkfolaaDoor.Big

namespace Go.Proofs.YtfcpmcdlgkfolaaDoor.Big
open Go.RowKit

end Go.Proofs.YtfcpmcdlgkfolaaDoor.Big

namespace Go.Proofs.YtfcpmcdlgkfolaaDoor.Big
open Go.RowKit

end Go.Proofs.YtfcpmcdlgkfolaaDoor.Big

namespace Go.Proofs.YtfcpmcdlgkfolaaDoor.Big
open Go.RowKit

def cmp (a b : Int) : Int := if a < b then -1 else if b < a then 1 else 0

end Go.Proofs.YtfcpmcdlgkfolaaDoor.Big

namespace Go.Proofs.YtfcpmcdlgkfolaaDoor.Big
open Go.RowKit

end Go.Proofs.YtfcpmcdlgkfolaaDoor.Big

namespace Go.Proofs.YtfcpmcdlgkfolaaDoor.Big
open Go.RowKit

end Go.Proofs.YtfcpmcdlgkfolaaDoor.Big

namespace Go.Proofs.YtfcpmcdlgkfolaaDoor.Big
open Go.RowKit

end Go.Proofs.YtfcpmcdlgkfolaaDoor.Big

namespace Go.Proofs.YtfcpmcdlgkfolaaDoor.Big
open Go.RowKit

end Go.Proofs.YtfcpmcdlgkfolaaDoor.Big
