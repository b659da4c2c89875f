/- Walks for the sketch. -/
import Derived.Test.YtdfjeoifeladfaaSkE1
import Derived.Test.YtdfjeoifeladfaaSkE2
import Derived.Test.YtdfjeoifeladfaaSkE3
import Derived.Test.YtdfjeoifeladfaaSkE5
import Derived.Test.YtdfjeoifeladfaaSkE6
namespace Go.Proofs.Ytdfjeoifeladfaa.Sketch
open Go.RowKit Go.Proofs.Ytdfjeoifeladfaa.E

end Go.Proofs.Ytdfjeoifeladfaa.Sketch
