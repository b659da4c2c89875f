/- Division of two words by one: shifts. -/
import Derived.Lib.BitFns
import Derived.Laws.BitsAllLaws
import Derived.IntWalk
namespace Go.Proofs.Ytcpdelkamckmfaa.Frac

theorem two_posN (k : Nat) : (0 : Int) < 2 ^ k := Int.pow_pos (by decide)
theorem bitLenAux_ge : ∀ (f x : Nat), 0 < x → x < 2 ^ f → 0 < Lib.bitLenAux f x ∧ 2 ^ (Lib.bitLenAux f x - 1) ≤ x
  | 0, x, h0, h => by simp at h; omega
  | f + 1, x, h0, h => by
    rw [Lib.bitLenAux, if_neg (by omega)]
    refine ⟨by omega, ?_⟩
    rw [Nat.add_sub_cancel_left]
    by_cases h1 : x / 2 = 0
    · rw [h1]
      have : Lib.bitLenAux f 0 = 0 := by cases f <;> simp [Lib.bitLenAux]
      rw [this]; omega
    · have ih := bitLenAux_ge f (x / 2) (by omega) (by rw [Nat.pow_succ] at h; omega)
      obtain ⟨k, hk⟩ : ∃ k, Lib.bitLenAux f (x / 2) = k + 1 := ⟨Lib.bitLenAux f (x / 2) - 1, by omega⟩
      rw [hk] at ih ⊢
      rw [Nat.add_sub_cancel] at ih
      rw [Nat.pow_succ]
      omega
/-- A divisor is shifted till its top bit stands. -/
theorem norm_y {y : Int} {s : Nat} (h0 : 0 < y) (h1 : y < 18446744073709551616) (hs : (s : Int) = 64 - (Lib.bitLen y.toNat : Int)) : s < 64 ∧ 9223372036854775808 ≤ y * 2 ^ s ∧ y * 2 ^ s < 18446744073709551616 := by
  obtain ⟨n, rfl⟩ := Int.eq_ofNat_of_zero_le (show 0 ≤ y by omega)
  have hn : n < 2 ^ 64 := by omega
  have g := bitLenAux_ge 64 n (by omega) hn
  have l : ∀ (f x : Nat), x < 2 ^ f → x < 2 ^ Lib.bitLenAux f x ∧ Lib.bitLenAux f x ≤ f := by
    intro f
    induction f with
    | zero => intro x h; simp [Lib.bitLenAux] at h ⊢; omega
    | succ f ih =>
      intro x h
      rw [Lib.bitLenAux]
      split
      · rename_i h0; subst h0; simp
      · have := ih (x / 2) (by rw [Nat.pow_succ] at h; omega)
        refine ⟨?_, by omega⟩
        rw [Nat.add_comm, Nat.pow_succ]
        omega
  have l1 := l 64 n hn
  rw [Int.toNat_natCast] at hs
  change (s : Int) = 64 - (Lib.bitLenAux 64 n : Int) at hs
  generalize Lib.bitLenAux 64 n = L at *
  have hsL : s = 64 - L := by omega
  have e1 : 2 ^ (L - 1) * 2 ^ s = 9223372036854775808 := by rw [← Nat.pow_add, show L - 1 + s = 63 by omega]
  have e2 : 2 ^ L * 2 ^ s = 18446744073709551616 := by rw [← Nat.pow_add, show L + s = 64 by omega]
  have e3 : 2 ^ (L - 1) * 2 ^ s ≤ n * 2 ^ s := Nat.mul_le_mul_right _ g.2
  have e4 : n * 2 ^ s < 2 ^ L * 2 ^ s := Nat.mul_lt_mul_of_pos_right l1.1 (Nat.two_pow_pos s)
  have e5 : ((n * 2 ^ s : Nat) : Int) = (n : Int) * 2 ^ s := by rw [Int.natCast_mul, Int.natCast_pow]; rfl
  rw [← e5]
  omega
theorem two_split64 {s : Nat} (h : s ≤ 64) : (18446744073709551616 : Int) = 2 ^ s * 2 ^ (64 - s) := by rw [← Int.pow_add, show s + (64 - s) = 64 by omega]; rfl
/-- High bits and low bits. -/
theorem or64 {a b : Int} {s : Nat} (hs : s ≤ 64) (a0 : 0 ≤ a) (a1 : a * 2 ^ s < 18446744073709551616) (b0 : 0 ≤ b) (b1 : b < 2 ^ s) : bits .or .u64 (a * 2 ^ s) b = a * 2 ^ s + b := by
  obtain ⟨p, rfl⟩ := Int.eq_ofNat_of_zero_le a0
  obtain ⟨q, rfl⟩ := Int.eq_ofNat_of_zero_le b0
  have c : ((2 ^ s : Nat) : Int) = 2 ^ s := by rw [Int.natCast_pow]; rfl
  have e5 : ((p * 2 ^ s : Nat) : Int) = (p : Int) * 2 ^ s := by rw [Int.natCast_mul, c]
  have q1 : q < 2 ^ s := by omega
  have q2 : 2 ^ s ≤ 2 ^ 64 := Nat.pow_le_pow_right (by decide) hs
  rw [← e5] at a1 ⊢
  rw [u64_or _ _ (by omega) a1 (by omega) (by omega), Int.toNat_natCast, Int.toNat_natCast, ← Nat.shiftLeft_eq, ← Nat.shiftLeft_add_eq_or_of_lt q1]
  omega
/-- Two words shifted. -/
theorem shift_two {hi lo y : Int} {s : Nat} (hs : s < 64) (h0 : 0 ≤ hi) (h1 : hi < y) (hY : y * 2 ^ s < 18446744073709551616) (l0 : 0 ≤ lo) (l1 : lo < 18446744073709551616) :
    0 ≤ hi * 2 ^ s ∧ hi * 2 ^ s < 18446744073709551616 ∧ 0 ≤ lo / 2 ^ (64 - s) ∧ lo / 2 ^ (64 - s) < 2 ^ s ∧ hi * 2 ^ s + lo / 2 ^ (64 - s) < y * 2 ^ s ∧ (hi * 18446744073709551616 + lo) * 2 ^ s = (hi * 2 ^ s + lo / 2 ^ (64 - s)) * 18446744073709551616 + lo * 2 ^ s % 18446744073709551616 := by
  have p := two_posN s
  have p' := two_posN (64 - s)
  have e := two_split64 (s := s) (by omega)
  have d1 : lo / 2 ^ (64 - s) < 2 ^ s := by rw [Int.ediv_lt_iff_lt_mul p', ← e]; exact l1
  have d0 : 0 ≤ lo / 2 ^ (64 - s) := Int.ediv_nonneg l0 (by omega)
  have m0 : 0 ≤ hi * 2 ^ s := Int.mul_nonneg h0 (by omega)
  have m1 : (hi + 1) * 2 ^ s ≤ y * 2 ^ s := Int.mul_le_mul_of_nonneg_right (by omega) (by omega)
  rw [Int.add_mul] at m1
  have k1 : lo * 2 ^ s / 18446744073709551616 = lo / 2 ^ (64 - s) := by
    rw [e, Int.mul_comm lo, Int.mul_ediv_mul_of_pos _ _ p]
  have k2 := Int.mul_ediv_add_emod (lo * 2 ^ s) 18446744073709551616
  rw [k1] at k2
  refine ⟨m0, by omega, d0, d1, by omega, ?_⟩
  rw [Int.add_mul, Int.add_mul, ← k2]
  rw [show hi * 18446744073709551616 * 2 ^ s = hi * 2 ^ s * 18446744073709551616 by rw [Int.mul_assoc, Int.mul_comm 18446744073709551616, ← Int.mul_assoc]]
  generalize lo / 2 ^ (64 - s) = u at *
  generalize hi * 2 ^ s = v at *
  omega
end Go.Proofs.Ytcpdelkamckmfaa.Frac
