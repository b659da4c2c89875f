/- The least begin, step by step; plain. -/
import Derived.Test.YtfcpmcdlgkfolaaDoorZhWqA
namespace Go.Proofs.YtfcpmcdlgkfolaaDoor.Wfq
open Go.RowKit Go.Proofs.YtfcpmcdlgkfolaaDoor.E Go.Proofs.YtfcpmcdlgkfolaaDoor.Scfq
theorem mul_in {a b A B : Int} (h0 : 0 ≤ a) (h1 : a ≤ A) (h2 : 0 ≤ b) (h3 : b ≤ B) : 0 ≤ a * b ∧ a * b ≤ A * B := ⟨Int.mul_nonneg h0 h2, Int.mul_le_mul h1 h3 h2 (by omega)⟩
/-- The first of the least begins of the first k. -/
def Sb (fs : List Q) (k : Nat) (b : Int) : Prop := (b = -1 ∧ ∀ j, j < k → (gq fs j).bs.length = 0) ∨ (0 ≤ b ∧ b.toNat < k ∧ 0 < (gq fs b.toNat).bs.length ∧ ∀ j, j < k → 0 < (gq fs j).bs.length → (gq fs b.toNat).bg ≤ (gq fs j).bg)
theorem sb_zero (fs : List Q) : Sb fs 0 (-1) := .inl ⟨rfl, fun j h => by omega⟩
theorem Sb.cases {fs : List Q} {k : Nat} {b : Int} (h : Sb fs k b) : b = -1 ∨ (0 ≤ b ∧ b.toNat < k) := h.elim (fun h => .inl h.1) (fun h => .inr ⟨h.1, h.2.1⟩)
theorem Sb.skip {fs : List Q} {k : Nat} {b : Int} (h : Sb fs k b) (h0 : (gq fs k).bs.length = 0) : Sb fs (k + 1) b := by
  rcases h with ⟨h1, h2⟩ | ⟨h1, h2, h3, h4⟩
  · refine .inl ⟨h1, fun j hj => ?_⟩
    by_cases e : j = k
    · subst e; exact h0
    · exact h2 j (by omega)
  · refine .inr ⟨h1, by omega, h3, fun j hj hp => ?_⟩
    by_cases e : j = k
    · subst e; omega
    · exact h4 j (by omega) hp
theorem Sb.take {fs : List Q} {k : Nat} {b : Int} (h : Sb fs k b) (h0 : 0 < (gq fs k).bs.length) (hb : b < 0 ∨ (gq fs k).bg < (gq fs b.toNat).bg) : Sb fs (k + 1) (k : Int) := by
  refine .inr ⟨by omega, by omega, by simpa using h0, fun j hj hp => ?_⟩
  simp only [Int.toNat_natCast]
  by_cases e : j = k
  · subst e; exact Int.le_refl _
  · rcases h with ⟨h1, h2⟩ | ⟨h1, h2, h3, h4⟩
    · have := h2 j (by omega); omega
    · have := h4 j (by omega) hp; omega
theorem Sb.keep {fs : List Q} {k : Nat} {b : Int} (h : Sb fs k b) (h0 : 0 ≤ b) (hb : (gq fs b.toNat).bg ≤ (gq fs k).bg) : Sb fs (k + 1) b := by
  rcases h with ⟨h1, _⟩ | ⟨h1, h2, h3, h4⟩
  · omega
  · refine .inr ⟨h1, by omega, h3, fun j hj hp => ?_⟩
    by_cases e : j = k
    · subst e; exact hb
    · exact h4 j (by omega) hp
theorem Sb.least {fs : List Q} {n : Nat} {b : Int} (h : Sb fs n b) (h0 : 0 ≤ b) : Least fs n (gq fs b.toNat).bg := by
  rcases h with ⟨h1, _⟩ | ⟨h1, h2, h3, h4⟩
  · omega
  · exact ⟨⟨b.toNat, h2, h3, rfl⟩, h4⟩
theorem sb_none {fs : List Q} {n k : Nat} {b : Int} (hk : k = n) (h : Sb fs k b) (hb : b < 0) : ∀ j, j < n → (gq fs j).bs.length = 0 := by
  subst hk
  rcases h with ⟨_, h⟩ | ⟨h, _⟩
  · exact h
  · omega
end Go.Proofs.YtfcpmcdlgkfolaaDoor.Wfq
