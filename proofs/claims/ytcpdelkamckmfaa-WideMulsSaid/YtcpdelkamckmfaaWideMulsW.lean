/- The walk of the law WideMuls. -/
import Derived.Test.YtcpdelkamckmfaaWmL
namespace Go.Proofs.Ytcpdelkamckmfaa.WideMuls
open Go.RowKit

theorem walk (u v x y : Int) (w : World) (h1 : 0 ≤ u) (h2 : u ≤ 18446744073709551615) (h3 : 0 ≤ v) (h4 : v ≤ 18446744073709551615) (g1 : 0 ≤ x) (g2 : x ≤ 18446744073709551615) (g3 : 0 ≤ y) (g4 : y ≤ 18446744073709551615) :
    Calls Try.prog 6 #[.agg #[.int .u64 u, .int .u64 v], .int .u64 x, .int .u64 y] w fun e w' => e = .returned (.bool true) ∧ Below w.heap.size w w' := by
  refine E.to_bel ?_
  have ha : Frac.WB u v := ⟨by omega, by omega, by omega, by omega⟩
  by_cases hx : x = 0
  · exact Frac.mlaw_x0 ha ⟨g1, g2⟩ ⟨g3, g4⟩ hx w
  · by_cases hy : y = 0
    · exact Frac.mlaw_y0 ha ⟨g1, g2⟩ ⟨g3, g4⟩ ⟨by omega, hy⟩ w
    · exact Frac.mlaw_p ha ⟨g1, g2⟩ ⟨g3, g4⟩ ⟨by omega, by omega⟩ w
end Go.Proofs.Ytcpdelkamckmfaa.WideMuls
