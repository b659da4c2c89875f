/- Walk of the test of one rule. -/
import Derived.Test.YtlmnlffbbbcodaaRulesS
namespace Go.Proofs.Ytlmnlffbbbcodaa.Rules
open Go.RowKit Go.Proofs.Ytlmnlffbbbcodaa.Trie

def badR (r : Rule) : Bool :=
  decide (r.srcBits < 0) || decide (r.dstBits < 0) || decide (32 < r.srcBits) || decide (32 < r.dstBits) || decide (r.proto < 0) || decide (255 < r.proto) || decide (r.low < 0) || decide (65535 < r.high) || decide (r.high < r.low) || decide (r.cls < 0) || decide (15 < r.cls)

set_option maxHeartbeats 4000000 in
theorem bad_any (r : Rule) (w : World) :
    Calls Try.prog 108 #[.agg r.cells.toArray] w fun e w' => e = .returned (.bool (badR r)) ∧ Below w.heap.size w w' := by
  obtain ⟨sa, sb, sc, sd, da, db, dc, dd, sbits, dbits, proto, low, high, cls⟩ := r
  simp only [Rule.cells]
  go_enter Try.func108, Try.ntmps108
  go_wp2_with fail
  all_goals go_ret
  all_goals exact ⟨ret_bool (by rw [Bool.eq_iff_iff]; simp [badR, *] <;> omega), (by repeat (first | exact Below.refl _ _ | assumption | refine Below.drew ?_ | refine below_drewN ?_ _ | refine Below.alloc ?_ (by first | omega | exact Below.size (by assumption) | (simp; done) | (simp; omega)) _ | refine Below.setCell ?_ (by first | omega | exact Below.size (by assumption) | (simp; done) | (simp; omega)) _ | refine Below.trans ?_ (Below.mono (by assumption) (by first | omega | exact Below.size (by assumption) | (simp; done) | (simp; omega)))))⟩

end Go.Proofs.Ytlmnlffbbbcodaa.Rules
