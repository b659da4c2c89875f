/- The walk of the law RulesPrune, over rows of integers. -/
import Derived.Test.YtlmnlffbbbcodaaRulesPruneW
import Derived.Test.YtlmnlffbbbcodaaRulesF
namespace Go.Proofs.Ytlmnlffbbbcodaa.RulesPrune
open Go.RowKit Go.Proofs.Ytlmnlffbbbcodaa.Trie Go.Proofs.Ytlmnlffbbbcodaa.Rules

theorem walkR (A : Option Addr) (n c : Nat) (rows : List (List Int)) (w : World) (hr : Rd w A (rows.flatMap fun r => List.zipWith Value.int [.u8, .u8, .u8, .u8, .u8, .u8, .u8, .u8, .i64, .i64, .i64, .i64, .i64, .i64] r)) (hn : rows.length = n) (hm : n ≤ 140737488355328)
    (hrow : ∀ r ∈ rows, r.length = 14 ∧ ∀ (i : Nat) (k : IntKind) (z : Int), ([.u8, .u8, .u8, .u8, .u8, .u8, .u8, .u8, .i64, .i64, .i64, .i64, .i64, .i64] : List IntKind)[i]? = some k → r[i]? = some z → (Lit.int k z).wf = true) :
    Calls Try.prog 4 #[.slice A n c] w fun e w' => e = .returned (.bool true) ∧ Below w.heap.size w w' := by
  obtain ⟨l, l1, l2, l3⟩ := rules_of (fun r hr => (hrow r hr).1)
  rw [l2] at hr
  exact walk A n c l w hr (by omega) hm (fun r hrl => bytes_of rfl hrow (l3 r hrl))
end Go.Proofs.Ytlmnlffbbbcodaa.RulesPrune
