/- The walk of the law TreeWays. -/
import Derived.Test.YtcpdelkamckmfaaTwE
import Derived.Test.YtcpdelkamckmfaaTwF
namespace Go.Proofs.Ytcpdelkamckmfaa.TreeWays
open Go.RowKit

theorem walk (A : Option Addr) (n c : Nat) (ns : List (Int × Int)) (a b : Int) (w : World) (hr : Rd w A (ns.flatMap c2)) (hn : ns.length = n) (hm : n ≤ 140737488355328) :
    Calls Try.prog 12 #[.slice A n c, .int .i64 a, .int .i64 b] w fun e w' => e = .returned (.bool true) ∧ Below w.heap.size w w' := by
  refine E.to_bel ?_
  by_cases hw : Hier.wrongT ns = 0
  · have g := Hier.good_of hw
    have htn : (Hier.trOf ns).n = n := by rw [Hier.trOf_n, hn]
    by_cases ha : a < 0 ∨ (n : Int) ≤ a
    · exact Hier.law_na A n c ns w hr hn hm rfl g hw ha
    · obtain ⟨k, rfl⟩ : ∃ k : Nat, a = k := ⟨a.toNat, by omega⟩
      have hk : k < (Hier.trOf ns).n := by omega
      by_cases hb : b < 0 ∨ (n : Int) ≤ b
      · by_cases hs : (Hier.share (Hier.trOf ns) k).2.2 = 0
        · exact Hier.law_1nb A n c ns w hr hn hm rfl g hw hk hs hb
        · exact Hier.law_2nb A n c ns w hr hn hm rfl g hw hk hs hb
      · obtain ⟨j, rfl⟩ : ∃ j : Nat, b = j := ⟨b.toNat, by omega⟩
        have hj : j < (Hier.trOf ns).n := by omega
        by_cases hs : (Hier.share (Hier.trOf ns) k).2.2 = 0
        · exact Hier.law_1ok A n c ns w hr hn hm rfl g hw hk hs hj
        · exact Hier.law_2ok A n c ns w hr hn hm rfl g hw hk hs hj
  · exact Hier.law_w A n c ns w hr hn hm hw
end Go.Proofs.Ytcpdelkamckmfaa.TreeWays
