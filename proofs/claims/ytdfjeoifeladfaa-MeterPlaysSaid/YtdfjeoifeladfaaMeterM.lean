/- A meter's colours, as a function of numbers. -/
import Derived.Lib.Hide
import Derived.Test.YtdfjeoifeladfaaMem
namespace Go.Proofs.Ytdfjeoifeladfaa.Meter
open Go.RowKit

def fit (n m : Int) : Bool := decide (0 ≤ n) && decide (n ≤ m)
theorem fit_iff {n m : Int} : fit n m = true ↔ 0 ≤ n ∧ n ≤ m := by simp [fit]
theorem fit_not {n m : Int} (h : fit n m = false) : n < 0 ∨ 0 ≤ n ∧ m < n := by simp [fit] at h; omega
def mright (C B E F S T : Int) : Bool := fit C 1048576 && fit B 1048576 && fit E 1048576 && fit F B && fit S E && fit T 1099511627776
theorem mright_iff {C B E F S T : Int} : mright C B E F S T = true ↔ (0 ≤ C ∧ C ≤ 1048576) ∧ (0 ≤ B ∧ B ≤ 1048576) ∧ (0 ≤ E ∧ E ≤ 1048576) ∧ (0 ≤ F ∧ F ≤ B) ∧ (0 ≤ S ∧ S ≤ E) ∧ (0 ≤ T ∧ T ≤ 1099511627776) := by
  simp [mright, fit_iff, and_assoc]
structure Mtr where
  C : Int
  B : Int
  E : Int
  F : Int
  S : Int
  T : Int
def zeroM : Mtr := ⟨0, 0, 0, 0, 0, 0⟩
/-- What the two hold when g more have come. -/
def f1 (B F g : Int) : Int := if g ≤ B - F then F + g else B
def s1 (B F E S g : Int) : Int := if g ≤ B - F then S else if g - (B - F) ≤ E - S then S + (g - (B - F)) else E
/-- What Colour answers. -/
def col (m : Mtr) (now b had : Int) : Mtr × Int × Int :=
  if mright m.C m.B m.E m.F m.S m.T = false then (zeroM, 0, 1)
  else if had < 1 ∨ 3 < had then (zeroM, 0, 5)
  else if now < m.T ∨ 1099511627776 < now ∨ b < 0 ∨ 1048576 < b then (zeroM, 0, 2)
  else if had = 1 ∧ b ≤ f1 m.B m.F (m.C * (now - m.T)) then (⟨m.C, m.B, m.E, f1 m.B m.F (m.C * (now - m.T)) - b, s1 m.B m.F m.E m.S (m.C * (now - m.T)), now⟩, 1, 0)
  else if had ≤ 2 ∧ b ≤ s1 m.B m.F m.E m.S (m.C * (now - m.T)) then (⟨m.C, m.B, m.E, f1 m.B m.F (m.C * (now - m.T)), s1 m.B m.F m.E m.S (m.C * (now - m.T)) - b, now⟩, 2, 0)
  else (⟨m.C, m.B, m.E, f1 m.B m.F (m.C * (now - m.T)), s1 m.B m.F m.E m.S (m.C * (now - m.T)), now⟩, 3, 0)
/-- The answer as a value. -/
def mV (m : Mtr) : Value := .agg #[(.int .i64 m.C), (.int .i64 m.B), (.int .i64 m.E), (.int .i64 m.F), (.int .i64 m.S), (.int .i64 m.T)]
def colV (r : Mtr × Int × Int) : Value := .tuple #[mV r.1, (.int .i64 r.2.1), (.int .i64 r.2.2)]

theorem col_cases (C B E F S T now b had : Int) :
    (mright C B E F S T = false ∧ colV (col ⟨C, B, E, F, S, T⟩ now b had) = colV (zeroM, 0, 1)) ∨
    (mright C B E F S T = true ∧ (had < 1 ∨ 1 ≤ had ∧ 3 < had) ∧ colV (col ⟨C, B, E, F, S, T⟩ now b had) = colV (zeroM, 0, 5)) ∨
    (mright C B E F S T = true ∧ 1 ≤ had ∧ had ≤ 3 ∧ (now < T ∨ T ≤ now ∧ 1099511627776 < now ∨ T ≤ now ∧ now ≤ 1099511627776 ∧ b < 0 ∨ T ≤ now ∧ now ≤ 1099511627776 ∧ 0 ≤ b ∧ 1048576 < b) ∧ colV (col ⟨C, B, E, F, S, T⟩ now b had) = colV (zeroM, 0, 2)) ∨
    (mright C B E F S T = true ∧ (1 ≤ had ∧ had ≤ 3) ∧ (T ≤ now ∧ now ≤ 1099511627776) ∧ (0 ≤ b ∧ b ≤ 1048576) ∧
      ((had = 1 ∧ b ≤ f1 B F (C * (now - T)) ∧ colV (col ⟨C, B, E, F, S, T⟩ now b had) = colV (⟨C, B, E, f1 B F (C * (now - T)) - b, s1 B F E S (C * (now - T)), now⟩, 1, 0)) ∨
       ((had = 1 ∧ f1 B F (C * (now - T)) < b ∨ had = 2) ∧ b ≤ s1 B F E S (C * (now - T)) ∧ colV (col ⟨C, B, E, F, S, T⟩ now b had) = colV (⟨C, B, E, f1 B F (C * (now - T)), s1 B F E S (C * (now - T)) - b, now⟩, 2, 0)) ∨
       ((had = 1 ∧ f1 B F (C * (now - T)) < b ∧ s1 B F E S (C * (now - T)) < b ∨ had = 2 ∧ s1 B F E S (C * (now - T)) < b ∨ had = 3) ∧ colV (col ⟨C, B, E, F, S, T⟩ now b had) = colV (⟨C, B, E, f1 B F (C * (now - T)), s1 B F E S (C * (now - T)), now⟩, 3, 0)))) := by
  cases hr : mright C B E F S T
  · left; exact ⟨rfl, by rw [col, if_pos hr]⟩
  right
  rw [col, if_neg (by simp only [hr]; decide)]
  simp only
  generalize f1 B F (C * (now - T)) = x
  generalize s1 B F E S (C * (now - T)) = y
  by_cases h1 : had < 1 ∨ 3 < had
  · left; rw [if_pos h1]; exact ⟨trivial, by omega, rfl⟩
  right
  rw [if_neg h1]
  by_cases h2 : now < T ∨ 1099511627776 < now ∨ b < 0 ∨ 1048576 < b
  · left; rw [if_pos h2]; exact ⟨trivial, by omega, by omega, by omega, rfl⟩
  right
  rw [if_neg h2]
  refine ⟨trivial, by omega, by omega, by omega, ?_⟩
  by_cases h3 : had = 1 ∧ b ≤ x
  · left; rw [if_pos h3]; exact ⟨h3.1, h3.2, rfl⟩
  right
  rw [if_neg h3]
  by_cases h4 : had ≤ 2 ∧ b ≤ y
  · left; rw [if_pos h4]; exact ⟨by omega, h4.2, rfl⟩
  right
  rw [if_neg h4]
  exact ⟨by omega, rfl⟩
end Go.Proofs.Ytdfjeoifeladfaa.Meter
