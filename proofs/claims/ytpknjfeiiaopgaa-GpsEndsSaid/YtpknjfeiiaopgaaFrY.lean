/- Fractions of whole numbers: their parts, sums, products, order. -/
import Derived.Test.YtpknjfeiiaopgaaFrZ
namespace Go.Proofs.Ytpknjfeiiaopgaa.Frac
open Go.RowKit Go.Proofs.Ytpknjfeiiaopgaa.E Go.Proofs.Ytpknjfeiiaopgaa.Big

theorem mk_num {n d : Int} (hd : 0 < d) : (mkRat n d.toNat).num = n.tdiv (Int.gcd n d : Int) ∧ ((mkRat n d.toNat).den : Int) = d.tdiv (Int.gcd n d : Int) := by
  have h0 : d.toNat ≠ 0 := by omega
  have hg : d.toNat.gcd n.natAbs = Int.gcd n d := by
    rw [Nat.gcd_comm, show d.toNat = d.natAbs by omega]; rfl
  constructor
  · rw [Rat.num_mkRat, if_neg h0, hg, ← Int.tdiv_eq_ediv_of_dvd (Int.gcd_dvd_left _ _)]
  · rw [Rat.den_mkRat, if_neg h0, hg, Int.natCast_ediv, show ((d.toNat : Nat) : Int) = d by omega, ← Int.tdiv_eq_ediv_of_nonneg (by omega)]
theorem mk_bd {n d : Int} (hd : 0 < d) : (mkRat n d.toNat).num.natAbs ≤ n.natAbs ∧ ((mkRat n d.toNat).den : Int) ≤ d := by
  obtain ⟨h1, h2⟩ := mk_num (n := n) hd
  rw [h1, h2]
  have := tdiv_bd (a := n) (Int.gcd n d : Int)
  have := tdiv_bd (a := d) (Int.gcd n d : Int)
  have : 0 ≤ d.tdiv (Int.gcd n d : Int) := Int.tdiv_nonneg (by omega) (by omega)
  omega
theorem mk_add {n d n' d' : Int} (hd : 0 < d) (hd' : 0 < d') : mkRat n d.toNat + mkRat n' d'.toNat = mkRat (n * d' + n' * d) (d * d').toNat := by
  rw [Rat.mkRat_add_mkRat _ _ (by omega) (by omega), Int.toNat_mul (by omega) (by omega), show ((d.toNat : Nat) : Int) = d by omega, show ((d'.toNat : Nat) : Int) = d' by omega]
theorem mk_mul {n d n' d' : Int} (hd : 0 < d) (hd' : 0 < d') : mkRat n d.toNat * mkRat n' d'.toNat = mkRat (n * n') (d * d').toNat := by
  rw [Rat.mkRat_mul_mkRat, Int.toNat_mul (by omega) (by omega)]
theorem mk_cmp {n d n' d' : Int} (hd : 0 < d) (hd' : 0 < d') : (mkRat n d.toNat - mkRat n' d'.toNat).num.sign = cmpv n d n' d' := by
  have e : mkRat n d.toNat - mkRat n' d'.toNat = mkRat (n * d' - n' * d) (d * d').toNat := by
    rw [Rat.sub_eq_add_neg, Rat.neg_mkRat, mk_add hd hd', Int.neg_mul, ← Int.sub_eq_add_neg]
  have hp : 0 < d * d' := Int.mul_pos hd hd'
  obtain ⟨h1, _⟩ := mk_num (n := n * d' - n' * d) hp
  obtain ⟨g0, _⟩ := gcd_facts (a := n * d' - n' * d) hp
  have hdv : (Int.gcd (n * d' - n' * d) (d * d') : Int) ∣ n * d' - n' * d := Int.gcd_dvd_left _ _
  rw [e, h1]
  generalize (Int.gcd (n * d' - n' * d) (d * d') : Int) = g at *
  generalize hA : n * d' = A at *
  generalize hB : n' * d = B at *
  obtain ⟨q, hq⟩ := hdv
  rw [hq, Int.mul_tdiv_cancel_left _ (by omega)]
  unfold cmpv
  rw [hA, hB]
  have h2 := Int.sign_mul g q
  rw [Int.sign_eq_one_of_pos g0, Int.one_mul, ← hq] at h2
  rw [← h2]
  rcases Int.lt_trichotomy A B with h | h | h
  · rw [if_pos h, Int.sign_eq_neg_one_of_neg (by omega)]
  · subst h; simp
  · rw [if_neg (by omega), if_pos h, Int.sign_eq_one_of_pos (by omega)]
end Go.Proofs.Ytpknjfeiiaopgaa.Frac
