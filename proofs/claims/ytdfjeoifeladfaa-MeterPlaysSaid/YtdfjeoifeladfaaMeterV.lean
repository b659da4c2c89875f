/- JColour, all cases. -/
import Derived.Test.YtdfjeoifeladfaaMeterJ
namespace Go.Proofs.Ytdfjeoifeladfaa.Meter
open Go.RowKit
theorem jcolour_any (C B E F S T now b had : Int) (w : World) :
    Calls Try.prog 16 #[.agg #[(.int .i64 C), (.int .i64 B), (.int .i64 E), (.int .i64 F), (.int .i64 S), (.int .i64 T)], .agg #[(.int .i64 now), (.int .i64 b)], (.int .i64 had)] w fun e w' => e = .returned (colV (col ⟨C, B, E, F, S, T⟩ now b had)) ∧ Below w.heap.size w w' := by
  rcases col_cases C B E F S T now b had with ⟨k1, k2⟩ | ⟨k1, k2, k3⟩ | ⟨k1, k2, k3, k4, k5⟩ | ⟨k1, ⟨k2, k3⟩, ⟨k4, k5⟩, ⟨k6, k7⟩, _⟩
  · rw [k2]; exact jcolour_bad1 C B E F S T now b had w k1
  · rw [k3]; exact jcolour_bad5 C B E F S T now b had w k1 k2
  · rw [k5]; exact jcolour_bad2 C B E F S T now b had w k1 k2 k3 k4
  · exact Go.Proofs.Ytdfjeoifeladfaa.E.to_bel (jcolour_okE C B E F S T now b had w k1 k2 k3 k4 k5 k6 k7)
end Go.Proofs.Ytdfjeoifeladfaa.Meter
