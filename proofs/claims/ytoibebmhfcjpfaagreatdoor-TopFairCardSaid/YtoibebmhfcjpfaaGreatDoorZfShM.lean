/- Shares by weights, plain: who is taken out, and that there is one answer. -/
import Derived.Test.YtoibebmhfcjpfaaGreatDoorZfMem
namespace Go.Proofs.YtoibebmhfcjpfaaGreatDoor.Share

def gI (zs : List Int) (k : Nat) : Int := zs.getD k 0
def sm (f : Nat → Int) : Nat → Int
  | 0 => 0
  | n + 1 => sm f n + f n
theorem sm_congr {f g : Nat → Int} : ∀ {n : Nat}, (∀ k, k < n → f k = g k) → sm f n = sm g n
  | 0, _ => rfl
  | n + 1, h => by
    have h1 := sm_congr (n := n) fun k hk => h k (by omega)
    have h2 := h n (by omega)
    simp only [sm]; omega
theorem sm_nn {f : Nat → Int} : ∀ {n : Nat}, (∀ k, k < n → 0 ≤ f k) → 0 ≤ sm f n
  | 0, _ => by simp [sm]
  | n + 1, h => by
    have h1 := sm_nn (n := n) fun k hk => h k (by omega)
    have h2 := h n (by omega)
    simp only [sm]; omega
theorem sm_le {f : Nat → Int} {m : Int} : ∀ {n : Nat}, (∀ k, k < n → f k ≤ m) → sm f n ≤ n * m
  | 0, _ => by simp [sm]
  | n + 1, h => by
    have h1 := sm_le (n := n) fun k hk => h k (by omega)
    have h2 := h n (by omega)
    have h3 : ((n + 1 : Nat) : Int) * m = n * m + m := by rw [Int.natCast_succ, Int.add_mul, Int.one_mul]
    simp only [sm]; omega
theorem sm_upd {f g : Nat → Int} {j : Nat} : ∀ {n : Nat}, j < n → (∀ k, k < n → k ≠ j → g k = f k) → sm g n = sm f n + (g j - f j)
  | 0, hj, _ => by omega
  | n + 1, hj, h => by
    simp only [sm]
    by_cases e : j = n
    · subst e
      have := sm_congr (f := g) (g := f) (n := j) fun k hk => h k (by omega) (by omega)
      omega
    · have h1 := sm_upd (n := n) (show j < n by omega) fun k hk hne => h k (by omega) hne
      have h2 := h n (by omega) (by omega)
      omega

def Lf (all : Int) (w : Nat → Int) (n : Nat) (S : Nat → Bool) : Int := all - sm (fun k => if S k then w k else 0) n
def Df (t : Nat → Int) (n : Nat) (S : Nat → Bool) : Int := sm (fun k => if S k then 0 else t k) n
def up (S : Nat → Bool) (j : Nat) : Nat → Bool := fun k => S k || decide (k = j)
theorem up_same {S : Nat → Bool} {j : Nat} : up S j j = true := by simp [up]
theorem up_ne {S : Nat → Bool} {j k : Nat} (h : k ≠ j) : up S j k = S k := by simp [up, h]
theorem up_iff {S : Nat → Bool} {j k : Nat} : up S j k = true ↔ S k = true ∨ k = j := by simp [up]
structure Rg (w t : Nat → Int) (n : Nat) : Prop where
  n16 : n ≤ 16
  w : ∀ k, k < n → 0 ≤ w k ∧ w k ≤ 1048576
  t : ∀ k, k < n → 1 ≤ t k ∧ t k ≤ 1000
structure Gd (all : Int) (w t : Nat → Int) (n : Nat) (S : Nat → Bool) : Prop where
  l0 : 0 ≤ Lf all w n S
  g1 : ∀ k, k < n → S k = true → w k * Df t n S ≤ Lf all w n S * t k
  g2 : ∀ k, k < n → S k = false → Lf all w n S * t k < w k * Df t n S
variable {all : Int} {w t : Nat → Int} {n : Nat} {S Sg : Nat → Bool}
theorem L_up {j : Nat} (hj : j < n) (h : S j = false) : Lf all w n (up S j) = Lf all w n S - w j := by
  have := sm_upd (f := fun k => if S k then w k else 0) (g := fun k => if up S j k then w k else 0) hj fun k hk hne => by simp only [up_ne hne]
  simp only [up_same, h] at this
  simp only [Lf, this]
  simp; omega
theorem D_up {j : Nat} (hj : j < n) (h : S j = false) : Df t n (up S j) = Df t n S - t j := by
  have := sm_upd (f := fun k => if S k then 0 else t k) (g := fun k => if up S j k then 0 else t k) hj fun k hk hne => by simp only [up_ne hne]
  simp only [up_same, h] at this
  simp only [Df, this]
  simp; omega
theorem D_nn (hr : Rg w t n) : 0 ≤ Df t n S := sm_nn fun k hk => by have := hr.t k hk; split <;> omega
theorem D_le (hr : Rg w t n) : Df t n S ≤ 16000 := by
  have h := sm_le (f := fun k => if S k then 0 else t k) (m := 1000) (n := n) fun k hk => by have := hr.t k hk; split <;> omega
  have := hr.n16
  unfold Df; omega
theorem L_le (hr : Rg w t n) : Lf all w n S ≤ all := by
  have := sm_nn (f := fun k => if S k then w k else 0) (n := n) fun k hk => by have := hr.w k hk; split <;> omega
  unfold Lf; omega
theorem D_pos (hr : Rg w t n) {j : Nat} (hj : j < n) (h : S j = false) : t j ≤ Df t n S := by
  have h1 := D_up (t := t) hj h
  have h2 := D_nn hr (S := up S j)
  omega
theorem inv_up (hr : Rg w t n) {j : Nat} (hj : j < n) (h : S j = false) (h0 : 0 ≤ Lf all w n S) (h1 : ∀ k, k < n → S k = true → w k * Df t n S ≤ Lf all w n S * t k) (hle : w j * Df t n S ≤ Lf all w n S * t j) :
    0 ≤ Lf all w n (up S j) ∧ ∀ k, k < n → up S j k = true → w k * Df t n (up S j) ≤ Lf all w n (up S j) * t k := by
  have eL := L_up (all := all) (w := w) hj h
  have eD := D_up (t := t) hj h
  have hdp := D_pos hr hj h
  have hd' := D_nn hr (S := up S j)
  have htj := hr.t j hj
  rw [eL, eD]
  rw [eD] at hd'
  generalize Lf all w n S = L at *
  generalize Df t n S = D at *
  have hD : 0 < D := by omega
  refine ⟨?_, fun k hk hu => ?_⟩
  · have h2 : L * t j ≤ L * D := Int.mul_le_mul_of_nonneg_left hdp h0
    have : w j ≤ L := Int.le_of_mul_le_mul_right (by omega) hD
    omega
  · have htk := hr.t k hk
    rcases up_iff.1 hu with e | e
    · have a1 := h1 k hk e
      have a2 : L * (D - t j) ≤ (L - w j) * D := by rw [Int.mul_sub, Int.sub_mul]; omega
      refine Int.le_of_mul_le_mul_right (a := D) ?_ hD
      calc w k * (D - t j) * D = (w k * D) * (D - t j) := by rw [Int.mul_assoc, Int.mul_comm (D - t j) D, ← Int.mul_assoc]
        _ ≤ (L * t k) * (D - t j) := Int.mul_le_mul_of_nonneg_right a1 hd'
        _ = (L * (D - t j)) * t k := by rw [Int.mul_assoc, Int.mul_comm (t k) (D - t j), ← Int.mul_assoc]
        _ ≤ ((L - w j) * D) * t k := Int.mul_le_mul_of_nonneg_right a2 (by omega)
        _ = (L - w j) * t k * D := by rw [Int.mul_assoc, Int.mul_comm D (t k), ← Int.mul_assoc]
    · subst e
      rw [Int.mul_sub, Int.sub_mul]; omega
def cnt (n : Nat) (S : Nat → Bool) : Int := sm (fun k => if S k then 0 else 1) n
theorem D_congr {S S' : Nat → Bool} (h : ∀ k, k < n → S k = S' k) : Df t n S = Df t n S' := sm_congr fun k hk => by rw [h k hk]
theorem sm_zero : ∀ {n : Nat}, sm (fun _ => 0) n = 0
  | 0 => rfl
  | n + 1 => by simp [sm, sm_zero (n := n)]
/-- All are taken out. -/
theorem D_zero (hr : Rg w t n) : Df t n S = 0 ↔ ∀ k, k < n → S k = true := by
  constructor
  · intro h k hk
    cases e : S k with
    | true => rfl
    | false => have := D_pos hr hk e; have := hr.t k hk; omega
  · intro h
    have : Df t n S = Df t n (fun _ => true) := D_congr fun k hk => h k hk
    rw [this]
    simp [Df, sm_zero]
/-- The level. -/
def lev (all : Int) (w t : Nat → Int) (n : Nat) (S : Nat → Bool) : Int × Int := if Df t n S = 0 then (0, 0) else (Lf all w n S, Df t n S)
/-- What the k-th gets. -/
def get1 (all : Int) (w t : Nat → Int) (n : Nat) (S : Nat → Bool) (k : Nat) : Int × Int := if S k then (w k, 1) else (t k * (lev all w t n S).1, (lev all w t n S).2)
theorem get1_iff (hr : Rg w t n) (g : Gd all w t n S) {k : Nat} (hk : k < n) : S k = true ↔ (lev all w t n S).2 = 0 ∨ w k * (lev all w t n S).2 ≤ t k * (lev all w t n S).1 := by
  unfold lev
  by_cases e : Df t n S = 0
  · rw [if_pos e]
    simp [(D_zero hr).1 e k hk]
  · rw [if_neg e]
    dsimp only
    rw [Int.mul_comm (t k)]
    cases es : S k with
    | true => simp [g.g1 k hk es]
    | false => have := g.g2 k hk es; simp; exact ⟨e, this⟩
end Go.Proofs.YtoibebmhfcjpfaaGreatDoor.Share
