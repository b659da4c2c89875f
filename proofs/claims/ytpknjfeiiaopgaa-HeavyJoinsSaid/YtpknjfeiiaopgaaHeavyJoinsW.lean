/- The walk of the law HeavyJoins. -/
import Derived.Test.YtpknjfeiiaopgaaHjZ
namespace Go.Proofs.Ytpknjfeiiaopgaa.HeavyJoins
open Go.RowKit Go.Proofs.Ytpknjfeiiaopgaa.E

theorem walk (k : Int) (A : Option Addr) (n c : Nat) (a : List (Int × Int)) (B : Option Addr) (m d : Nat) (b : List (Int × Int)) (w : World) (hra : Rd w A (a.flatMap c2)) (han : a.length = n) (hn : n ≤ 140737488355328) (hrb : Rd w B (b.flatMap c2)) (hbn : b.length = m) (hm : m ≤ 140737488355328) :
    Calls Try.prog 9 #[.int .i64 k, .slice A n c, .slice B m d] w fun e w' => e = .returned (.bool true) ∧ Below w.heap.size w w' := by
  refine E.to_bel ?_
  exact Heavy.law_ A B n m c d a b w hra hrb han hbn hn hm
end Go.Proofs.Ytpknjfeiiaopgaa.HeavyJoins
