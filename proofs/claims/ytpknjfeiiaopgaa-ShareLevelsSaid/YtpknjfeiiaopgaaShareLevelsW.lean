/- The walk of the law ShareLevels. -/
import Derived.Test.YtpknjfeiiaopgaaShZ
namespace Go.Proofs.Ytpknjfeiiaopgaa.ShareLevels
open Go.RowKit Go.Proofs.Ytpknjfeiiaopgaa.E

theorem walk (all : Int) (A : Option Addr) (n c : Nat) (ws : List Int) (B : Option Addr) (m d : Nat) (ts : List Int) (w : World) (hw : Rd w A (ws.map (.int .i64))) (hwl : ws.length = n) (hn : n ≤ 140737488355328) (ht : Rd w B (ts.map (.int .i64))) (htl : ts.length = m) (hm : m ≤ 140737488355328) :
    Calls Try.prog 8 #[.int .i64 all, .slice A n c, .slice B m d] w fun e w' => e = .returned (.bool true) ∧ Below w.heap.size w w' := by
  refine E.to_bel ?_
  by_cases hz : Share.lw all ws ts = 0
  · exact Share.law_ok A B n m c d ws ts w hw ht hwl htl hn hm hz
  · exact Share.law_bad A B n m c d ws ts w hw ht hwl htl hn hm hz
end Go.Proofs.Ytpknjfeiiaopgaa.ShareLevels
