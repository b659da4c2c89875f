/- The walk of the law RedPlays. -/
import Derived.Test.YtcpdelkamckmfaaRedL
namespace Go.Proofs.Ytcpdelkamckmfaa.RedPlays
open Go.RowKit

theorem walk (tg iv N : Int) (A : Option Addr) (n c : Nat) (l : List (Int × Int)) (w : World) (hr : Rd w A (l.flatMap c2)) (hn : l.length = n) :
    Calls Try.prog 7 #[(.int .i64 tg), (.int .i64 iv), (.int .i64 N), .slice A n c] w fun e w' => e = .returned (.bool true) ∧ Below w.heap.size w w' := by
  refine E.to_bel ?_
  by_cases hgg : 1 ≤ iv ∧ iv ≤ 1048576 ∧ 1 ≤ N ∧ N ≤ 400
  · obtain ⟨g1, g2, g3, g4⟩ := hgg
    obtain ⟨M, rfl⟩ := Int.eq_ofNat_of_zero_le (show 0 ≤ N by omega)
    by_cases hg : 0 ≤ tg ∧ tg ≤ 1048576 ∧ 1 ≤ iv ∧ iv ≤ 1048576 ∧ n ≤ 400
    · by_cases hf : ∀ k, k < n → Red.Fine l k
      · exact Red.law_C_ok tg iv A n c l w hr hn g1 g2 (by omega) (by omega) hg hf
      · exact Red.law_B_ok tg iv A n c l w hr hn g1 g2 (by omega) (by omega) hg (by simpa using hf)
    · exact Red.law_A_ok tg iv A n c l w hr hn g1 g2 (by omega) (by omega) hg
  · by_cases hg : 0 ≤ tg ∧ tg ≤ 1048576 ∧ 1 ≤ iv ∧ iv ≤ 1048576 ∧ n ≤ 400
    · by_cases hf : ∀ k, k < n → Red.Fine l k
      · exact Red.law_C_bad tg iv A n c l w hr hn hgg hg hf
      · exact Red.law_B_bad tg iv A n c l w hr hn hgg hg (by simpa using hf)
    · exact Red.law_A_bad tg iv A n c l w hr hn hgg hg
end Go.Proofs.Ytcpdelkamckmfaa.RedPlays
