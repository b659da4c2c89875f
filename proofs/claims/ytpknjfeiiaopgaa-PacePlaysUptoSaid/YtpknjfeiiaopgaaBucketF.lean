/- Plain law: when tokens are ready. -/
import Derived.Test.YtpknjfeiiaopgaaBucketI
namespace Go.Proofs.Ytpknjfeiiaopgaa.Bucket
open Go.RowKit

/-- The earliest time, and whether there is one. -/
def rdy (num den burst level at0 n : Int) : Int × Bool :=
  if n * den ≤ level then (at0, true)
  else if burst < n ∨ num = 0 then (0, false)
  else if 1099511627776 < at0 + (n * den - level + num - 1) / num then (0, false)
  else (at0 + (n * den - level + num - 1) / num, true)

theorem rdy_can {num den burst level at0 n t : Int} (h : bright num den burst level at0 = true) (hn0 : 0 ≤ n) (hn1 : n ≤ 1048576) (ht0 : at0 ≤ t) (ht1 : t ≤ 1099511627776) :
    n * den ≤ lev num den burst level at0 t ↔ ((rdy num den burst level at0 n).2 = true ∧ (rdy num den burst level at0 n).1 ≤ t) := by
  obtain ⟨⟨a0, a1⟩, ⟨a2, a3⟩, a4, a5⟩ := rng_iff.1 (bright_rng h)
  have hlv : 0 ≤ level ∧ level ≤ burst * den := by
    simp only [bright, Bool.and_eq_true, decide_eq_true_eq] at h
    exact ⟨h.1.1.1.2, h.1.1.2⟩
  obtain ⟨l0, l1⟩ := hlv
  have q0 : 0 ≤ num * (t - at0) := Int.mul_nonneg a0 (by omega)
  have hbn : n ≤ burst → n * den ≤ burst * den := fun hh => Int.mul_le_mul_of_nonneg_right hh (by omega)
  have hbn' : burst < n → burst * den < n * den := fun hh => Int.mul_lt_mul_of_pos_right hh (by omega)
  unfold rdy
  by_cases h1 : n * den ≤ level
  · rw [if_pos h1]
    simp only [true_and]
    constructor
    · intro _; exact ht0
    · intro _; unfold lev; split <;> omega
  · rw [if_neg h1]
    by_cases h2 : burst < n ∨ num = 0
    · rw [if_pos h2]
      simp only [Bool.false_eq_true, false_and, iff_false]
      rcases h2 with h2 | h2
      · have := hbn' h2
        unfold lev; split <;> omega
      · subst h2
        unfold lev
        rw [Int.zero_mul]
        split <;> omega
    · rw [if_neg h2]
      have hnum : 1 ≤ num := by omega
      have hb := hbn (by omega)
      have key : (n * den - level + num - 1) / num ≤ t - at0 ↔ n * den - level ≤ num * (t - at0) := by
        rw [← Int.lt_add_one_iff, Int.ediv_lt_iff_lt_mul (by omega), Int.add_mul, Int.one_mul, Int.mul_comm (t - at0)]
        omega
      have hlev : n * den ≤ lev num den burst level at0 t ↔ n * den - level ≤ num * (t - at0) := by
        unfold lev
        split
        · constructor
          · intro _; omega
          · intro _; exact hb
        · omega
      rw [hlev, ← key]
      split
      · simp only [Bool.false_eq_true, false_and, iff_false]; omega
      · simp only [true_and]; omega
theorem rdy_bd {num den burst level at0 n : Int} (h : bright num den burst level at0 = true) (hok : (rdy num den burst level at0 n).2 = true) : at0 ≤ (rdy num den burst level at0 n).1 ∧ (rdy num den burst level at0 n).1 ≤ 1099511627776 := by
  obtain ⟨⟨a0, a1⟩, _⟩ := rng_iff.1 (bright_rng h)
  have hat : 0 ≤ at0 ∧ at0 ≤ 1099511627776 := by
    simp only [bright, Bool.and_eq_true, decide_eq_true_eq] at h
    exact ⟨h.1.2, h.2⟩
  unfold rdy at hok ⊢
  split
  · simp only; omega
  · rename_i h1
    rw [if_neg h1] at hok
    split
    · rename_i h2; rw [if_pos h2] at hok; cases hok
    · rename_i h2
      rw [if_neg h2] at hok
      have hd : 0 ≤ (n * den - level + num - 1) / num := Int.ediv_nonneg (by omega) (by omega)
      split
      · rename_i h3; rw [if_pos h3] at hok; cases hok
      · simp only; omega
theorem rdy_no {num den burst level at0 n : Int} (hok : (rdy num den burst level at0 n).2 = false) : (rdy num den burst level at0 n).1 = 0 := by
  unfold rdy at hok ⊢
  split
  · rename_i h1; rw [if_pos h1] at hok; cases hok
  · rename_i h1
    rw [if_neg h1] at hok
    split
    · rfl
    · rename_i h2
      rw [if_neg h2] at hok
      split
      · rfl
      · rename_i h3; rw [if_neg h3] at hok; cases hok
end Go.Proofs.Ytpknjfeiiaopgaa.Bucket
