/- The walk of the law BucketPlays. -/
import Derived.Test.YtdfjeoifeladfaaBpLA
import Derived.Test.YtdfjeoifeladfaaBpLB
import Derived.Test.YtdfjeoifeladfaaBpLC
import Derived.Test.YtdfjeoifeladfaaBpLD
namespace Go.Proofs.Ytdfjeoifeladfaa.BucketPlays
open Go.RowKit Go.Proofs.Ytdfjeoifeladfaa.Bucket

theorem walk (num den burst : Int) (A : Option Addr) (n c : Nat) (l : List (Int × Int)) (w : World) (hr : Rd w A (l.flatMap c2)) (hn : l.length = n) (hm : n ≤ 140737488355328) :
    Calls Try.prog 5 #[(.int .i64 num), (.int .i64 den), (.int .i64 burst), .slice A n c] w fun e w' => e = .returned (.bool true) ∧ Below w.heap.size w w' := by
  refine E.to_bel ?_
  cases hg : rng num den burst
  · exact law_A num den burst A n c l w hr hn hm hg
  · cases hs : sorted l
    · exact law_B num den burst A n c l w hr hn hm hg hs
    · by_cases he : (pst ⟨num, den, burst, burst * den, 0⟩ l).2.2 = 0
      · exact law_D num den burst A n c l w hr hn hm hg hs he
      · exact law_C num den burst A n c l w hr hn hm hg hs _ rfl he
end Go.Proofs.Ytdfjeoifeladfaa.BucketPlays
