/- What is printed of a script, plain: and that it reads back. -/
import Derived.Test.YtfcpmcdlgkfolaaDoorBnK
namespace Go.Proofs.YtfcpmcdlgkfolaaDoor.Bn
open Go.Lib

theorem dig_not {l : List UInt8} (h : l.all dig = true) {c : UInt8} (hc : dig c = false) : c ∉ l := fun e => by
  have := List.all_eq_true.1 h c e
  rw [hc] at this
  cases this
theorem dec_no10 (n : Nat) : (10 : UInt8) ∉ decDigits n := dig_not (dec_val n).2.1 (by decide)
theorem dec_no32 (n : Nat) : (32 : UInt8) ∉ decDigits n := dig_not (dec_val n).2.1 (by decide)
theorem num_dec {n : Nat} (h : n ≤ 1099511627776) : num (decDigits n) = some n := by
  have := num_itoa (l := decDigits n) (v := (n : Int)) (by omega) (by omega) (itoa_nonneg n)
  simpa using this

def wordOf (k : Nat) : List UInt8 := if k = 1 then sIn else if k = 2 then sTick else sPoll
def headT (a b c : Nat) : List UInt8 := sRate ++ 32 :: (decDigits a ++ 32 :: (decDigits b ++ 32 :: decDigits c))
def opT (o : Nat × Nat) : List UInt8 := wordOf o.1 ++ 32 :: decDigits o.2
def printT (a b c : Nat) (ops : List (Nat × Nat)) : List UInt8 := headT a b c ++ 10 :: ops.flatMap fun o => opT o ++ [10]

theorem read_head {a b c : Nat} {s : Sc} (ha : a ≤ 1099511627776) (hb : b ≤ 1099511627776) (hc : c ≤ 1099511627776) : read 0 s (headT a b c) = some ⟨a, b, c, s.ops⟩ := by
  have h1 : wds 32 (headT a b c) = [sRate, decDigits a, decDigits b, decDigits c] := by
    unfold headT
    rw [wds_cons _ (by decide), wds_cons _ (dec_no32 a), wds_cons _ (dec_no32 b), wds_none (dec_no32 c)]
  simp [read, h1, nums, num_dec ha, num_dec hb, num_dec hc]
theorem word_kind {k : Nat} (h0 : 1 ≤ k) (h1 : k ≤ 3) : kindOf (wordOf k) = k ∧ (32 : UInt8) ∉ wordOf k ∧ (10 : UInt8) ∉ wordOf k := by
  rcases (show k = 1 ∨ k = 2 ∨ k = 3 by omega) with rfl | rfl | rfl <;> decide
theorem read_op {k : Nat} {o : Nat × Nat} {s : Sc} (hk : k ≠ 0) (h0 : 1 ≤ o.1) (h1 : o.1 ≤ 3) (h2 : o.2 ≤ 1099511627776) : read k s (opT o) = some { s with ops := s.ops ++ [o] } := by
  obtain ⟨g1, g2, _⟩ := word_kind h0 h1
  have h3 : wds 32 (opT o) = [wordOf o.1, decDigits o.2] := by
    unfold opT
    rw [wds_cons _ g2, wds_none (dec_no32 o.2)]
  have : ¬ o.1 = 0 := by omega
  simp [read, h3, nums, num_dec h2, hk, g1, this]

theorem prs_ops : ∀ (ops : List (Nat × Nat)) (k : Nat) (s : Sc), k ≠ 0 → (∀ o ∈ ops, (1 ≤ o.1 ∧ o.1 ≤ 3) ∧ o.2 ≤ 1099511627776) → prs k s (ops.flatMap fun o => opT o ++ [10]) = (0, some { s with ops := s.ops ++ ops })
  | [], k, s, hk, _ => by
    rw [List.flatMap_nil, prs_none (by simp)]
    simp [fin, hk]
  | o :: ops, k, s, hk, h => by
    obtain ⟨⟨h0, h1⟩, h2⟩ := h o (List.mem_cons_self ..)
    obtain ⟨_, _, g3⟩ := word_kind h0 h1
    have hn : (10 : UInt8) ∉ opT o := by
      unfold opT
      simp only [List.mem_append, List.mem_cons, not_or]
      exact ⟨g3, by decide, dec_no10 o.2⟩
    rw [List.flatMap_cons, List.append_assoc, List.singleton_append, prs_cons hn, read_op hk h0 h1 h2]
    simp only
    rw [prs_ops ops (k + 1) _ (by omega) (fun x hx => h x (List.mem_cons_of_mem _ hx))]
    simp

theorem parse_print {a b c : Nat} {ops : List (Nat × Nat)} (ha : a ≤ 1099511627776) (hb : b ≤ 1099511627776) (hc : c ≤ 1099511627776) (h : ∀ o ∈ ops, (1 ≤ o.1 ∧ o.1 ≤ 3) ∧ o.2 ≤ 1099511627776) : parse (printT a b c ops) = (0, some ⟨a, b, c, ops⟩) := by
  have hn : (10 : UInt8) ∉ headT a b c := by
    unfold headT
    simp only [List.mem_append, List.mem_cons, not_or]
    exact ⟨by decide, by decide, dec_no10 a, by decide, dec_no10 b, by decide, dec_no10 c⟩
  unfold parse printT
  rw [prs_cons hn, read_head ha hb hc]
  simp only
  rw [prs_ops ops 1 _ (by omega) h]
  simp [sc0]

end Go.Proofs.YtfcpmcdlgkfolaaDoor.Bn
