/- The walk of the law EdfRuns. -/
import Derived.Test.YtdfjeoifeladfaaEdfL
namespace Go.Proofs.Ytdfjeoifeladfaa.EdfRuns
open Go.RowKit

theorem walk (A : Option Addr) (n c : Nat) (l : List (Int × Int)) (w : World) (hr : Rd w A (l.flatMap Edf.cj)) (hn : l.length = n) (hm : n ≤ 140737488355328) :
    Calls Try.prog 11 #[.slice A n c] w fun e w' => e = .returned (.bool true) ∧ Below w.heap.size w w' := by
  refine E.to_bel ?_
  by_cases hw : Edf.wrongOf l = 0
  · have hg : Edf.good l = true := by
      cases h : Edf.good l
      · unfold Edf.wrongOf at hw; rw [h] at hw; cases hw
      · rfl
    obtain ⟨h1, h2⟩ := Edf.good_iff.1 hg
    exact Edf.law_ok A n c l w hr hn hm hw (by omega) (fun k hk => h2 k (by omega))
  · exact Edf.law_bad A n c l w hr hn hm hw
end Go.Proofs.Ytdfjeoifeladfaa.EdfRuns
