/- Walk: Mul. -/
import Derived.Test.YtpknjfeiiaopgaaBigL
namespace Go.Proofs.Ytpknjfeiiaopgaa.Big
open Go.RowKit

/-- A product, as far as digit i of the first factor and digit j of the second. -/
def MulInv (x y zs : List Int) (i j : Nat) (cc : Int) : Prop :=
  0 ≤ cc ∧ cc < 4294967296 ∧ zs.length = x.length + y.length ∧ Dig zs ∧ (∀ q, i + y.length ≤ q → ∀ hq : q < zs.length, zs[q] = 0) ∧ dval zs + pw (i + j) * cc = dval (x.take i) * dval y + pw i * (x[i]?.getD 0) * dval (y.take j)
theorem mul_start (x y : List Int) : MulInv x y (List.replicate (x.length + y.length) 0) 0 0 0 :=
  ⟨by omega, by omega, by simp, Dig.zeros _, fun j _ hj => by simp, by simp [dval_zeros, dval]⟩
theorem mul_step {x y zs : List Int} {i j : Nat} {cc t : Int} (h : MulInv x y zs i j cc) (hx : Dig x) (hy : Dig y) (hi : i < x.length) (hj : j < y.length) (hl : i + j < zs.length) (ht : t = cc + (x[i] * y[j] + zs[i + j])) :
    (0 ≤ t ∧ t < 18446744073709551616 ∧ 0 ≤ x[i] * y[j] ∧ x[i] * y[j] ≤ 18446744065119617025) ∧ MulInv x y (zs.set (i + j) (t % 4294967296)) i (j + 1) (t / 4294967296) := by
  obtain ⟨h1, h2, h3, h4, h5, h6⟩ := h
  have a1 := hx.get hi
  have a2 := hy.get hj
  have a3 := h4.get hl
  have m0 : 0 ≤ x[i] * y[j] := Int.mul_nonneg a1.1 a2.1
  have m1 : x[i] * y[j] ≤ 4294967295 * 4294967295 := Int.mul_le_mul (by omega) (by omega) a2.1 (by omega)
  refine ⟨⟨by omega, by omega, m0, by omega⟩, by omega, by omega, by simpa using h3, h4.set _ (by omega), fun q hq hl' => ?_, ?_⟩
  · rw [get_set_ne (by omega)]
    exact h5 q hq _
  · rw [dval_set hl, take_step j, getD_lt hj, getD_lt hi, ← Nat.add_assoc, pw_succ]
    rw [getD_lt hi] at h6
    have e : t = t % 4294967296 + 4294967296 * (t / 4294967296) := by omega
    have ep : pw (i + j) = pw i * pw j := pw_add i j
    generalize t % 4294967296 = r at e ⊢
    generalize t / 4294967296 = q at e ⊢
    generalize dval (x.take i) = X at *
    generalize dval (y.take j) = Y at *
    generalize dval zs = Z at *
    generalize zs[i + j] = d at *
    generalize x[i] = u at *
    generalize y[j] = v at *
    rw [ep] at *
    generalize pw i = P at *
    generalize pw j = R at *
    generalize dval y = YY at *
    clear m1 m0 a1 a2 a3 h1 h2
    grind
theorem mul_row {x y zs : List Int} {i : Nat} {cc : Int} (h : MulInv x y zs i y.length cc) (hi : i < x.length) : MulInv x y (zs.set (i + y.length) cc) (i + 1) 0 0 := by
  obtain ⟨h1, h2, h3, h4, h5, h6⟩ := h
  have hl : i + y.length < zs.length := by omega
  refine ⟨by omega, by omega, by simpa using h3, h4.set _ ⟨h1, h2⟩, fun q hq hl' => ?_, ?_⟩
  · rw [get_set_ne (by omega)]
    exact h5 q (by omega) _
  · rw [dval_set hl, h5 _ (Nat.le_refl _) hl, take_step i, getD_lt hi]
    rw [List.take_length, getD_lt hi] at h6
    rw [List.take_zero]
    have e0 : dval [] = 0 := rfl
    rw [e0]
    generalize dval (x.take i) = X at *
    generalize dval y = Y at *
    generalize dval zs = Z at *
    generalize pw (i + y.length) = P at *
    generalize pw i = R at *
    generalize x[i] = u at *
    grind
theorem mul_end {x y zs : List Int} {cc : Int} (h : MulInv x y zs x.length 0 cc) : cc = 0 → dval zs = dval x * dval y := by
  rintro rfl
  obtain ⟨h1, h2, h3, h4, h5, h6⟩ := h
  rw [List.take_length, List.take_zero] at h6
  have e0 : dval [] = 0 := rfl
  rw [e0] at h6
  simpa using h6
end Go.Proofs.Ytpknjfeiiaopgaa.Big
