/- The walk of the law MeterPlays. -/
import Derived.Test.YtdfjeoifeladfaaMpLA
import Derived.Test.YtdfjeoifeladfaaMpLC
import Derived.Test.YtdfjeoifeladfaaMpLD
namespace Go.Proofs.Ytdfjeoifeladfaa.MeterPlays
open Go.RowKit

theorem walk (p0 p1 p2 : Int) (A : Option Addr) (n c : Nat) (l : List (Int × Int)) (w : World) (hr : Rd w A (l.flatMap c2)) (hn : l.length = n) (hm : n ≤ 8796093022208) :
    Calls Try.prog 6 #[(.int .i64 p0), (.int .i64 p1), (.int .i64 p2), .slice A n c] w fun e w' => e = .returned (.bool true) ∧ Below w.heap.size w w' := by
  refine E.to_bel ?_
  cases hg : Meter.mright p0 p1 p2 p1 p2 0
  · exact Meter.law_A p0 p1 p2 A n c l w hr hn hm hg
  · by_cases he : (Meter.mst ⟨p0, p1, p2, p1, p2, 0⟩ l).2.2 = 0
    · exact Meter.law_D p0 p1 p2 A n c l w hr hn hm hg he
    · exact Meter.law_C p0 p1 p2 A n c l w hr hn hm hg _ rfl he
end Go.Proofs.Ytdfjeoifeladfaa.MeterPlays
