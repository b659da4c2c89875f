/- The walk of the law GpsEnds. -/
import Derived.Test.YtpknjfeiiaopgaaGpL
namespace Go.Proofs.Ytpknjfeiiaopgaa.GpsEnds
open Go.RowKit

theorem walk (A : Option Addr) (n c : Nat) (bs : List Int) (B : Option Addr) (m d : Nat) (ws : List Int) (w : World) (hb : Rd w A (bs.map (.int .i64))) (hbl : bs.length = n) (hn : n ≤ 140737488355328) (hw : Rd w B (ws.map (.int .i64))) (hwl : ws.length = m) (hm : m ≤ 140737488355328) :
    Calls Try.prog 7 #[.slice A n c, .slice B m d] w fun e w' => e = .returned (.bool true) ∧ Below w.heap.size w w' := by
  refine E.to_bel ?_
  by_cases hz : Gps.wr bs ws = 0
  · exact Gps.law_ok A B n m c d bs ws w hb hw hbl hwl hn hm hz
  · exact Gps.law_bad A B n m c d bs ws w hb hw hbl hwl hn hm hz
end Go.Proofs.Ytpknjfeiiaopgaa.GpsEnds
