/- Rules of rows of integers. -/
import Derived.Test.YtlmnlffbbbcodaaRulesS
import Derived.Test.YtlmnlffbbbcodaaFrame
namespace Go.Proofs.Ytlmnlffbbbcodaa.Rules
open Go.RowKit Go.Proofs.Ytlmnlffbbbcodaa.Trie

def Rule.ints (r : Rule) : List Int := [r.sa, r.sb, r.sc, r.sd, r.da, r.db, r.dc, r.dd, r.srcBits, r.dstBits, r.proto, r.low, r.high, r.cls]
theorem rules_of {rows : List (List Int)} (h : ∀ r ∈ rows, r.length = 14) : ∃ l : List Rule, l.length = rows.length ∧ rows.flatMap (fun r => List.zipWith Value.int [.u8, .u8, .u8, .u8, .u8, .u8, .u8, .u8, .i64, .i64, .i64, .i64, .i64, .i64] r) = l.flatMap Rule.cells ∧ ∀ s ∈ l, s.ints ∈ rows := by
  induction rows with
  | nil => exact ⟨[], rfl, rfl, by simp⟩
  | cons r rows ih =>
    obtain ⟨l, h1, h2, h3⟩ := ih (fun r hr => h r (by simp [hr]))
    obtain ⟨x0, x1, x2, x3, x4, x5, x6, x7, x8, x9, x10, x11, x12, x13, rfl⟩ := list_14 (h r (by simp))
    refine ⟨⟨x0, x1, x2, x3, x4, x5, x6, x7, x8, x9, x10, x11, x12, x13⟩ :: l, by simp [h1], by simp only [List.flatMap_cons, h2]; rfl, fun s hs => ?_⟩
    rcases List.mem_cons.1 hs with rfl | hs
    · simp [Rule.ints]
    · exact List.mem_cons_of_mem _ (h3 s hs)
theorem bytes_of {ks : List IntKind} {rows : List (List Int)} (hk : ks = [.u8, .u8, .u8, .u8, .u8, .u8, .u8, .u8, .i64, .i64, .i64, .i64, .i64, .i64]) (h : ∀ r ∈ rows, r.length = ks.length ∧ ∀ (i : Nat) (k : IntKind) (z : Int), ks[i]? = some k → r[i]? = some z → (Lit.int k z).wf = true) {s : Rule} (hs : s.ints ∈ rows) : s.bytes := by
  subst hk
  have h := (h _ hs).2
  exact ⟨⟨bounds_u8 (h 0 _ _ rfl rfl), bounds_u8 (h 1 _ _ rfl rfl), bounds_u8 (h 2 _ _ rfl rfl), bounds_u8 (h 3 _ _ rfl rfl)⟩, bounds_u8 (h 4 _ _ rfl rfl), bounds_u8 (h 5 _ _ rfl rfl), bounds_u8 (h 6 _ _ rfl rfl), bounds_u8 (h 7 _ _ rfl rfl)⟩
end Go.Proofs.Ytlmnlffbbbcodaa.Rules
