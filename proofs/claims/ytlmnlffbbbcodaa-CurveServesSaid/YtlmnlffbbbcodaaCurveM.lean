/- Plain laws of chapter 11's Keeps and Serve. -/
import Derived.Lib.Hide
namespace Go.Proofs.Ytlmnlffbbbcodaa.CurveS

/-- What came till k. -/
def S (l : List Int) : Nat → Int
  | 0 => 0
  | k + 1 => S l k + l.getD k 0
/-- The room that is left. -/
def R (b r : Int) (l : List Int) : Nat → Int
  | 0 => b
  | k + 1 => min (R b r l k) b + r - l.getD k 0
/-- Each row of units keeps the curve. -/
def KP (b r : Int) (l : List Int) : Prop := ∀ i j, i ≤ j → j < l.length → S l (j + 1) - S l i ≤ b + r * ((j : Int) - i + 1)

theorem R_le (b r : Int) (l : List Int) : ∀ k i, i < k → R b r l k ≤ b + r * ((k : Int) - i) - (S l k - S l i)
  | 0, i, h => by omega
  | k + 1, i, h => by
    have hs : S l (k + 1) = S l k + l.getD k 0 := rfl
    have hr : R b r l (k + 1) = min (R b r l k) b + r - l.getD k 0 := rfl
    rcases Nat.lt_or_ge i k with h1 | h1
    · have ih := R_le b r l k i h1
      have e : r * (((k + 1 : Nat) : Int) - i) = r * ((k : Int) - i) + r := by
        rw [show ((k + 1 : Nat) : Int) - i = ((k : Int) - i) + 1 from by omega, Int.mul_add, Int.mul_one]
      rw [hr, hs, e]
      generalize r * ((k : Int) - i) = z at *
      omega
    · obtain rfl : i = k := by omega
      have e : r * (((i + 1 : Nat) : Int) - i) = r := by rw [show ((i + 1 : Nat) : Int) - i = 1 from by omega, Int.mul_one]
      rw [hr, hs, e]
      omega
theorem R_eq (b r : Int) (l : List Int) : ∀ k, 0 < k → ∃ i, i < k ∧ R b r l k = b + r * ((k : Int) - i) - (S l k - S l i)
  | 0, h => by omega
  | k + 1, _ => by
    have hs : S l (k + 1) = S l k + l.getD k 0 := rfl
    have hr : R b r l (k + 1) = min (R b r l k) b + r - l.getD k 0 := rfl
    by_cases h0 : 0 < k ∧ R b r l k ≤ b
    · obtain ⟨i, hi, he⟩ := R_eq b r l k h0.1
      refine ⟨i, by omega, ?_⟩
      have e : r * (((k + 1 : Nat) : Int) - i) = r * ((k : Int) - i) + r := by
        rw [show ((k + 1 : Nat) : Int) - i = ((k : Int) - i) + 1 from by omega, Int.mul_add, Int.mul_one]
      have hm : min (R b r l k) b = R b r l k := Int.min_eq_left h0.2
      rw [hr, hs, e, hm, he]
      generalize r * ((k : Int) - i) = z at *
      omega
    · refine ⟨k, by omega, ?_⟩
      have e : r * (((k + 1 : Nat) : Int) - k) = r := by rw [show ((k + 1 : Nat) : Int) - k = 1 from by omega, Int.mul_one]
      have hm : min (R b r l k) b = b := by
        rcases Nat.eq_zero_or_pos k with h1 | h1
        · subst h1; exact Int.min_eq_right (Int.le_refl _)
        · exact Int.min_eq_right (by omega)
      rw [hr, hs, e, hm]
      omega
theorem kp_iff (b r : Int) (l : List Int) : KP b r l ↔ ∀ k, 0 < k → k ≤ l.length → 0 ≤ R b r l k := by
  constructor
  · intro h k h0 hk
    obtain ⟨i, hi, he⟩ := R_eq b r l k h0
    have h1 := h i (k - 1) (by omega) (by omega)
    rw [show k - 1 + 1 = k from by omega, show ((k - 1 : Nat) : Int) - i + 1 = (k : Int) - i from by omega] at h1
    rw [he]; omega
  · intro h i j hij hj
    have h1 := h (j + 1) (by omega) (by omega)
    have h2 := R_le b r l (j + 1) i (by omega)
    rw [show ((j + 1 : Nat) : Int) - i = (j : Int) - i + 1 from by omega] at h2
    omega

/-- Bounds. -/
theorem getD_bd {l : List Int} (h : ∀ x ∈ l, 0 ≤ x ∧ x ≤ 1048576) (k : Nat) : 0 ≤ l.getD k 0 ∧ l.getD k 0 ≤ 1048576 := by
  rw [List.getD_eq_getElem?_getD]
  by_cases hk : k < l.length
  · rw [List.getElem?_eq_getElem hk]; exact h _ (List.getElem_mem hk)
  · rw [List.getElem?_eq_none (by omega)]; simp
theorem S_bd {l : List Int} (h : ∀ x ∈ l, 0 ≤ x ∧ x ≤ 1048576) : ∀ k, 0 ≤ S l k ∧ S l k ≤ 1048576 * k
  | 0 => by simp [S]
  | k + 1 => by
    have := S_bd h k
    have := getD_bd h k
    simp only [S]
    omega
theorem S_mono {l : List Int} (h : ∀ x ∈ l, 0 ≤ x ∧ x ≤ 1048576) (i : Nat) : ∀ d, S l i ≤ S l (i + d) ∧ S l (i + d) ≤ S l i + 1048576 * d
  | 0 => by simp
  | d + 1 => by
    have := S_mono h i d
    have := getD_bd h (i + d)
    rw [← Nat.add_assoc]
    simp only [S]
    omega
theorem R_bd {b r : Int} {l : List Int} (h : ∀ x ∈ l, 0 ≤ x ∧ x ≤ 1048576) (hb : 0 ≤ b ∧ b ≤ 1048576) (hr : 0 ≤ r ∧ r ≤ 1048576) : ∀ k : Nat, -(1048576 * (k : Int)) ≤ R b r l k ∧ R b r l k ≤ 2097152
  | 0 => by simp [R]; omega
  | k + 1 => by
    have := R_bd h hb hr k
    have := getD_bd h k
    simp only [R]
    omega

/-- Who serves: what waits, and since when. -/
def st (late rate : Int) (l : List Int) : Nat → Int × Int
  | 0 => (0, 0)
  | k + 1 =>
    let w := (st late rate l k).1 + l.getD k 0
    let g := if 0 < w then (if late ≤ (st late rate l k).2 then min w rate else 0) else 0
    (w - g, if w - g = 0 then 0 else (st late rate l k).2 + 1)
/-- What goes. -/
def goes (late rate : Int) (l : List Int) (k : Nat) : Int :=
  let w := (st late rate l k).1 + l.getD k 0
  if 0 < w then (if late ≤ (st late rate l k).2 then min w rate else 0) else 0
def served (late rate : Int) (l : List Int) (k : Nat) : List Int := (List.range k).map (goes late rate l)
theorem served_succ (late rate : Int) (l : List Int) (k : Nat) : served late rate l (k + 1) = served late rate l k ++ [goes late rate l k] := by
  simp [served, List.range_succ]
theorem served_len (late rate : Int) (l : List Int) (k : Nat) : (served late rate l k).length = k := by simp [served]
/-- What has gone. -/
def gone (late rate : Int) (l : List Int) (k : Nat) : Int := S l k - (st late rate l k).1
theorem st_bd {late rate : Int} {l : List Int} (h : ∀ x ∈ l, 0 ≤ x ∧ x ≤ 1048576) (hr : 0 ≤ rate) : ∀ k, 0 ≤ (st late rate l k).1 ∧ (st late rate l k).1 ≤ S l k ∧ 0 ≤ (st late rate l k).2 ∧ (st late rate l k).2 ≤ k ∧ ((st late rate l k).1 = 0 → (st late rate l k).2 = 0)
  | 0 => by simp [st, S]
  | k + 1 => by
    obtain ⟨h1, h2, h3, h4, h5⟩ := st_bd h hr k
    have := getD_bd h k
    simp only [st, S]
    generalize (st late rate l k).1 = a at *
    generalize (st late rate l k).2 = c at *
    generalize l.getD k 0 = x at *
    refine ⟨?_, ?_, ?_, ?_, ?_⟩ <;> repeat' split
    all_goals omega
end Go.Proofs.Ytlmnlffbbbcodaa.CurveS
