/- The walk of the law HierPlays. -/
import Derived.Test.YtcpdelkamckmfaaHrL
namespace Go.Proofs.Ytcpdelkamckmfaa.HierPlays
open Go.RowKit

theorem walk (A : Option Addr) (n c : Nat) (ns : List (Int × Int)) (B : Option Addr) (m d : Nat) (os : List E.O3) (w : World) (hr : Rd w A (ns.flatMap c2)) (hn : ns.length = n) (hm : n ≤ 140737488355328) (hr2 : Rd w B (os.flatMap E.c3)) (hn2 : os.length = m) (hm2 : m ≤ 140737488355328) :
    Calls Try.prog 10 #[.slice A n c, .slice B m d] w fun e w' => e = .returned (.bool true) ∧ Below w.heap.size w w' := by
  refine E.to_bel ?_
  by_cases hw : Hier.wrongT ns = 0
  · by_cases hb : 400 < m
    · exact Hier.law_o A n c ns B m d os w hr hn hm hr2 hn2 hm2 hw hb
    · exact Hier.law_ok A n c ns B m d os w hr hn hm hr2 hn2 hm2 hw (by omega)
  · exact Hier.law_w A n c ns B m d os w hr hn hm hr2 hn2 hm2 hw
end Go.Proofs.Ytcpdelkamckmfaa.HierPlays
