/- The walk of the law FracAdds. -/
import Derived.Test.YtcpdelkamckmfaaFrL
namespace Go.Proofs.Ytcpdelkamckmfaa.FracAdds
open Go.RowKit

theorem walk (n d n' d' : Int) (w : World) :
    Calls Try.prog 3 #[.agg #[(.int .i64 n), (.int .i64 d)], .agg #[(.int .i64 n'), (.int .i64 d')]] w fun e w' => e = .returned (.bool true) ∧ Below w.heap.size w w' := by
  refine E.to_bel ?_
  cases ha : Frac.bright n d
  · exact Frac.law_a ha w
  · cases hb : Frac.bright n' d'
    · exact Frac.law_b ha hb w
    · exact Frac.law_ok ha hb w
end Go.Proofs.Ytcpdelkamckmfaa.FracAdds
