/- The walk of the law HeavyAdds. -/
import Derived.Test.YtcpdelkamckmfaaHvZ
namespace Go.Proofs.Ytcpdelkamckmfaa.HeavyAdds
open Go.RowKit Go.Proofs.Ytcpdelkamckmfaa.E

theorem walk (k : Int) (A : Option Addr) (n c : Nat) (l : List (Int × Int)) (x : Int) (D : Option Addr) (m d : Nat) (zs : List Int) (w : World) (hr : Rd w A (l.flatMap c2)) (hn : l.length = n) (hm : n ≤ 140737488355328) (hz : Rd w D (zs.map (.int .i64))) (hzl : zs.length = m) (hm6 : m ≤ 1048576) :
    Calls Try.prog 13 #[.int .i64 k, .slice A n c, .int .i64 x, .slice D m d] w fun e w' => e = .returned (.bool true) ∧ Below w.heap.size w w' := by
  refine E.to_bel ?_
  by_cases hk : 1 ≤ k ∧ k ≤ 400
  · exact Heavy.law_ok A n c l D m d zs w hr hn hm hz hzl hm6 hk
  · exact Heavy.law_bad A n c l D m d zs w hr hn hm hz hzl (by omega)
end Go.Proofs.Ytcpdelkamckmfaa.HeavyAdds
