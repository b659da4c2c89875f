/- The walk of the law WideAdds. -/
import Derived.Test.YtcpdelkamckmfaaWdL
namespace Go.Proofs.Ytcpdelkamckmfaa.WideAdds
open Go.RowKit

theorem walk (u v u' v' : Int) (w : World) (h1 : 0 ≤ u) (h2 : u ≤ 18446744073709551615) (h3 : 0 ≤ v) (h4 : v ≤ 18446744073709551615) (g1 : 0 ≤ u') (g2 : u' ≤ 18446744073709551615) (g3 : 0 ≤ v') (g4 : v' ≤ 18446744073709551615) :
    Calls Try.prog 5 #[.agg #[.int .u64 u, .int .u64 v], .agg #[.int .u64 u', .int .u64 v']] w fun e w' => e = .returned (.bool true) ∧ Below w.heap.size w w' := by
  refine E.to_bel ?_
  have ha : Frac.WB u v := ⟨by omega, by omega, by omega, by omega⟩
  have hb : Frac.WB u' v' := ⟨by omega, by omega, by omega, by omega⟩
  cases hw : Frac.wo ((u * 18446744073709551616 + v) + (u' * 18446744073709551616 + v'))
  · exact Frac.law_f ha hb hw w
  · exact Frac.law_t ha hb hw w
end Go.Proofs.Ytcpdelkamckmfaa.WideAdds
