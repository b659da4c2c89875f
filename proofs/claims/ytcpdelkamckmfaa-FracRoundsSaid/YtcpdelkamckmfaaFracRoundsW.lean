/- The walk of the law FracRounds. -/
import Derived.Test.YtcpdelkamckmfaaFrM
namespace Go.Proofs.Ytcpdelkamckmfaa.FracRounds
open Go.RowKit

theorem walk (n d v : Int) (w : World) (g0 : -9223372036854775808 ≤ n) (g1 : n ≤ 9223372036854775807) (h0 : 0 ≤ v) (h1 : v ≤ 18446744073709551615) :
    Calls Try.prog 4 #[.agg #[(.int .i64 n), (.int .i64 d)], .int .u64 v] w fun e w' => e = .returned (.bool true) ∧ Below w.heap.size w w' := by
  refine E.to_bel ?_
  obtain ⟨m, rfl⟩ := Int.eq_ofNat_of_zero_le h0
  cases ha : Frac.bright n d
  · exact Frac.frl_bad g0 g1 ha (by omega) w
  · exact Frac.frl_ok g0 g1 ha (by omega) w
end Go.Proofs.Ytcpdelkamckmfaa.FracRounds
