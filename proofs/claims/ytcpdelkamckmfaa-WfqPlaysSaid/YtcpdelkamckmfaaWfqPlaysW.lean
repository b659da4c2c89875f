/- The walk of the law WfqPlays. -/
import Derived.Test.YtcpdelkamckmfaaWqL
namespace Go.Proofs.Ytcpdelkamckmfaa.WfqPlays
open Go.RowKit

theorem walk (A : Option Addr) (n c : Nat) (ws : List Int) (B : Option Addr) (m d : Nat) (os : List E.O3) (w : World) (hr : Rd w A (ws.map (.int .i64))) (hn : ws.length = n) (hm : n ≤ 140737488355328) (hr2 : Rd w B (os.flatMap E.c3)) (hn2 : os.length = m) (hm2 : m ≤ 140737488355328) :
    Calls Try.prog 9 #[.slice A n c, .slice B m d] w fun e w' => e = .returned (.bool true) ∧ Below w.heap.size w w' := by
  refine E.to_bel ?_
  by_cases hw : Scfq.wrongOf ws = 0
  · by_cases hb : 400 < m
    · exact Wfq.law_o A n c ws B m d os w hr hn hm hr2 hn2 hm2 hw hb
    · exact Wfq.law_ok A n c ws B m d os w hr hn hm hr2 hn2 hm2 hw (by omega)
  · exact Wfq.law_w A n c ws B m d os w hr hn hm hr2 hn2 hm2 hw
end Go.Proofs.Ytcpdelkamckmfaa.WfqPlays
