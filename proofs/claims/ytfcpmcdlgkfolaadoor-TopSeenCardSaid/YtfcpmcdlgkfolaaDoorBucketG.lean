/- Walk of the reference's ILevel. -/
import Derived.Test.YtfcpmcdlgkfolaaDoorBigH
import Derived.Deep.RegionHeld3
import Derived.Test.YtfcpmcdlgkfolaaDoorBucketK
import Derived.Deep.Cut
import Derived.Deep.RegionWith
import Derived.Deep.DeepCutAuto
namespace Go.Proofs.YtfcpmcdlgkfolaaDoor.Bucket
open Go.RowKit Go.Proofs.YtfcpmcdlgkfolaaDoor.Big

theorem cmp_le {a b : Int} (h : ¬ b < a) : cmp a b ≤ 0 := by
  by_cases h1 : a < b
  · simp [cmp, h1]
  · simp [cmp, h1, h]

def ilevel (num den burst level at0 now : Int) : Int := if burst * den < num * (now - at0) + level then burst * den else num * (now - at0) + level

set_option maxHeartbeats 4000000 in
theorem ilevel_any (num den burst level at0 now : Int) (w : World) (h0 : 0 ≤ num) (h1 : num ≤ 1048576) (h2 : 0 ≤ den) (h3 : den ≤ 1048576) (h4 : 0 ≤ burst) (h5 : burst ≤ 1048576) (h6 : 0 ≤ level) (h7 : level ≤ 1099511627776) (h8 : 0 ≤ at0) (h9 : at0 ≤ now) (h10 : now ≤ 1099511627776) :
    Calls Tryd.prog 72 #[.agg #[.int .i64 num, .int .i64 den, .int .i64 burst, .int .i64 level, .int .i64 at0], .int .i64 now] w fun e w' => e = .returned (.int .i64 (ilevel num den burst level at0 now)) ∧ Below w.heap.size w w' := by
  have p0 : 0 ≤ num * (now - at0) := Int.mul_nonneg h0 (by omega)
  have p1 : num * (now - at0) ≤ 1048576 * 1099511627776 := Int.mul_le_mul h1 (by omega) (by omega) (by omega)
  have q0 : 0 ≤ burst * den := Int.mul_nonneg h4 h2
  have q1 : burst * den ≤ 1048576 * 1048576 := Int.mul_le_mul h5 h3 (by omega) (by omega)
  have hil : ilevel num den burst level at0 now = if burst * den < num * (now - at0) + level then burst * den else num * (now - at0) + level := rfl
  have HIL := Lib.hid hil
  clear hil
  go_enter Tryd.func72, Tryd.ntmps72
  go_wp2_with fail
  generalize hW : World.alloc w _ = W0
  have hb0 := named hW
  clear hW
  have c0_0 := fun o => Below.cell hb0 (p := ⟨w.heap.size, o, none⟩) (by first | omega | exact Below.size (by assumption) | (simp; done) | (simp; omega))
  have l0_0 : w.heap.size < W0.heap.size := Nat.lt_of_lt_of_le (by first | omega | exact Below.size (by assumption) | (simp; done) | (simp; omega)) (Below.size hb0)
  have hB : Below w.heap.size w W0 := (by repeat (first | (with_reducible exact Below.refl _ _) | (with_reducible assumption) | (with_reducible refine Below.drew ?_) | (with_reducible refine below_drewN ?_ _) | ((with_reducible refine Below.setCell ?_ ?_ _); rotate_left; (next => first | omega | exact Nat.le_refl _ | (refine Below.size (B := ?_) ?_; rotate_left; assumption) | (simp; done) | (simp; omega))) | ((with_reducible refine Below.alloc ?_ ?_ _); rotate_left; (next => first | omega | exact Nat.le_refl _ | (refine Below.size (B := ?_) ?_; rotate_left; assumption) | (simp; done) | (simp; omega))) | ((with_reducible refine Below.trans (b := ?_) ?_ (Below.mono (B := ?_) ?_ ?_)); rotate_left 3; (next => (with_reducible assumption)); (next => first | omega | exact Nat.le_refl _ | (refine Below.size (B := ?_) ?_; rotate_left; assumption) | (simp; done) | (simp; omega))) | exact Below.refl _ _ | assumption | refine Below.drew ?_ | refine below_drewN ?_ _ | refine Below.alloc ?_ (by first | omega | exact Below.size (by assumption) | (simp; done) | (simp; omega)) _ | refine Below.setCell ?_ (by first | omega | exact Below.size (by assumption) | (simp; done) | (simp; omega)) _ | refine Below.trans ?_ (Below.mono (by assumption) (by first | omega | exact Below.size (by assumption) | (simp; done) | (simp; omega)))))
  have hsub : IntKind.i64.wrap (now - at0) = now - at0 := IntWalk.i64_in _ (by omega)
  have hd0 : -9223372036854775808 ≤ now - at0 := by omega
  have hd1 : now - at0 ≤ 9223372036854775807 := by omega
  have hn0 : -9223372036854775808 ≤ num := by omega
  have hn1 : num ≤ 9223372036854775807 := by omega
  go_region_held3 (fun W => Below W0.heap.size W0 W ∧ (∀ o, W.cell? ⟨w.heap.size, o, none⟩ = (#[.int .i64 num, .int .i64 den, .int .i64 burst, .int .i64 level, .int .i64 at0] : Array Value)[o]?))
    (first | exact ⟨(Below.refl _ _).drew, fun o => (c0_0 o).trans (by simp [go_sem, *])⟩ | exact held1 ((Below.refl _ _).alloc (Nat.le_refl _) _) l0_0 (by assumption) | exact held1 ((Below.refl _ _).alloc (Nat.le_refl _) _).drew l0_0 (by assumption) | exact hq)
    ((first | (go_at_call 99; refine (newint_any _ (by assumption) (by assumption) _).mono ?_; rintro e w5 ⟨b5, rfl, hi5, hg5, hb5⟩; have hq := held1 hb5 l0_0 (by assumption); have hqs := hq.1.size) | (go_at_call 98; refine (mul_ok _ _ _ _ _ _ ?_ ?_ _ ?_ ?_ ?_ ?_ ?_).mono ?_; rotate_left 2; (next => first | exact ok_new _ | exact ok_newd _ | (refine ok_of (z := ?_) ?_; rotate_left; assumption) | (refine IntOK.below (ok_new _) ?_; (next => repeat (first | exact Below.refl _ _ | assumption | refine Below.drew ?_ | refine below_drewN ?_ _ | (refine Below.alloc ?_ ?_ _; rotate_left; (next => first | omega | exact Nat.le_refl _ | (refine Below.size (B := ?_) ?_; rotate_left; assumption) | (simp; done) | (simp; omega))) | (refine Below.setCell ?_ ?_ _; rotate_left; (next => first | omega | exact Nat.le_refl _ | (refine Below.size (B := ?_) ?_; rotate_left; assumption) | (simp; done) | (simp; omega))) | (refine Below.trans (b := ?_) ?_ (Below.mono (B := ?_) ?_ ?_); rotate_left 3; (next => assumption); (next => first | omega | exact Nat.le_refl _ | (refine Below.size (B := ?_) ?_; rotate_left; assumption) | (simp; done) | (simp; omega)))))) | (refine IntOK.below (ok_newd _) ?_; (next => repeat (first | exact Below.refl _ _ | assumption | refine Below.drew ?_ | refine below_drewN ?_ _ | (refine Below.alloc ?_ ?_ _; rotate_left; (next => first | omega | exact Nat.le_refl _ | (refine Below.size (B := ?_) ?_; rotate_left; assumption) | (simp; done) | (simp; omega))) | (refine Below.setCell ?_ ?_ _; rotate_left; (next => first | omega | exact Nat.le_refl _ | (refine Below.size (B := ?_) ?_; rotate_left; assumption) | (simp; done) | (simp; omega))) | (refine Below.trans (b := ?_) ?_ (Below.mono (B := ?_) ?_ ?_); rotate_left 3; (next => assumption); (next => first | omega | exact Nat.le_refl _ | (refine Below.size (B := ?_) ?_; rotate_left; assumption) | (simp; done) | (simp; omega)))))) | (refine IntOK.below (w := ?_) (ok_of (z := ?_) ?_) ?_; rotate_left 2; (next => assumption); (next => repeat (first | exact Below.refl _ _ | assumption | refine Below.drew ?_ | refine below_drewN ?_ _ | (refine Below.alloc ?_ ?_ _; rotate_left; (next => first | omega | exact Nat.le_refl _ | (refine Below.size (B := ?_) ?_; rotate_left; assumption) | (simp; done) | (simp; omega))) | (refine Below.setCell ?_ ?_ _; rotate_left; (next => first | omega | exact Nat.le_refl _ | (refine Below.size (B := ?_) ?_; rotate_left; assumption) | (simp; done) | (simp; omega))) | (refine Below.trans (b := ?_) ?_ (Below.mono (B := ?_) ?_ ?_); rotate_left 3; (next => assumption); (next => first | omega | exact Nat.le_refl _ | (refine Below.size (B := ?_) ?_; rotate_left; assumption) | (simp; done) | (simp; omega))))))); (next => first | assumption | exact new_int _ | exact IntAt.drew (new_int _) | (refine IntAt.below (w := ?_) ?_ ?_; rotate_left; (next => assumption); (next => repeat (first | exact Below.refl _ _ | assumption | refine Below.drew ?_ | refine below_drewN ?_ _ | (refine Below.alloc ?_ ?_ _; rotate_left; (next => first | omega | exact Nat.le_refl _ | (refine Below.size (B := ?_) ?_; rotate_left; assumption) | (simp; done) | (simp; omega))) | (refine Below.setCell ?_ ?_ _; rotate_left; (next => first | omega | exact Nat.le_refl _ | (refine Below.size (B := ?_) ?_; rotate_left; assumption) | (simp; done) | (simp; omega))) | (refine Below.trans (b := ?_) ?_ (Below.mono (B := ?_) ?_ ?_); rotate_left 3; (next => assumption); (next => first | omega | exact Nat.le_refl _ | (refine Below.size (B := ?_) ?_; rotate_left; assumption) | (simp; done) | (simp; omega)))))) | (refine IntAt.below (new_int _) ?_; (next => repeat (first | exact Below.refl _ _ | assumption | refine Below.drew ?_ | refine below_drewN ?_ _ | (refine Below.alloc ?_ ?_ _; rotate_left; (next => first | omega | exact Nat.le_refl _ | (refine Below.size (B := ?_) ?_; rotate_left; assumption) | (simp; done) | (simp; omega))) | (refine Below.setCell ?_ ?_ _; rotate_left; (next => first | omega | exact Nat.le_refl _ | (refine Below.size (B := ?_) ?_; rotate_left; assumption) | (simp; done) | (simp; omega))) | (refine Below.trans (b := ?_) ?_ (Below.mono (B := ?_) ?_ ?_); rotate_left 3; (next => assumption); (next => first | omega | exact Nat.le_refl _ | (refine Below.size (B := ?_) ?_; rotate_left; assumption) | (simp; done) | (simp; omega)))))) | (refine IntAt.below (IntAt.drew (new_int _)) ?_; (next => repeat (first | exact Below.refl _ _ | assumption | refine Below.drew ?_ | refine below_drewN ?_ _ | (refine Below.alloc ?_ ?_ _; rotate_left; (next => first | omega | exact Nat.le_refl _ | (refine Below.size (B := ?_) ?_; rotate_left; assumption) | (simp; done) | (simp; omega))) | (refine Below.setCell ?_ ?_ _; rotate_left; (next => first | omega | exact Nat.le_refl _ | (refine Below.size (B := ?_) ?_; rotate_left; assumption) | (simp; done) | (simp; omega))) | (refine Below.trans (b := ?_) ?_ (Below.mono (B := ?_) ?_ ?_); rotate_left 3; (next => assumption); (next => first | omega | exact Nat.le_refl _ | (refine Below.size (B := ?_) ?_; rotate_left; assumption) | (simp; done) | (simp; omega))))))); (next => first | assumption | exact new_int _ | exact IntAt.drew (new_int _) | (refine IntAt.below (w := ?_) ?_ ?_; rotate_left; (next => assumption); (next => repeat (first | exact Below.refl _ _ | assumption | refine Below.drew ?_ | refine below_drewN ?_ _ | (refine Below.alloc ?_ ?_ _; rotate_left; (next => first | omega | exact Nat.le_refl _ | (refine Below.size (B := ?_) ?_; rotate_left; assumption) | (simp; done) | (simp; omega))) | (refine Below.setCell ?_ ?_ _; rotate_left; (next => first | omega | exact Nat.le_refl _ | (refine Below.size (B := ?_) ?_; rotate_left; assumption) | (simp; done) | (simp; omega))) | (refine Below.trans (b := ?_) ?_ (Below.mono (B := ?_) ?_ ?_); rotate_left 3; (next => assumption); (next => first | omega | exact Nat.le_refl _ | (refine Below.size (B := ?_) ?_; rotate_left; assumption) | (simp; done) | (simp; omega)))))) | (refine IntAt.below (new_int _) ?_; (next => repeat (first | exact Below.refl _ _ | assumption | refine Below.drew ?_ | refine below_drewN ?_ _ | (refine Below.alloc ?_ ?_ _; rotate_left; (next => first | omega | exact Nat.le_refl _ | (refine Below.size (B := ?_) ?_; rotate_left; assumption) | (simp; done) | (simp; omega))) | (refine Below.setCell ?_ ?_ _; rotate_left; (next => first | omega | exact Nat.le_refl _ | (refine Below.size (B := ?_) ?_; rotate_left; assumption) | (simp; done) | (simp; omega))) | (refine Below.trans (b := ?_) ?_ (Below.mono (B := ?_) ?_ ?_); rotate_left 3; (next => assumption); (next => first | omega | exact Nat.le_refl _ | (refine Below.size (B := ?_) ?_; rotate_left; assumption) | (simp; done) | (simp; omega)))))) | (refine IntAt.below (IntAt.drew (new_int _)) ?_; (next => repeat (first | exact Below.refl _ _ | assumption | refine Below.drew ?_ | refine below_drewN ?_ _ | (refine Below.alloc ?_ ?_ _; rotate_left; (next => first | omega | exact Nat.le_refl _ | (refine Below.size (B := ?_) ?_; rotate_left; assumption) | (simp; done) | (simp; omega))) | (refine Below.setCell ?_ ?_ _; rotate_left; (next => first | omega | exact Nat.le_refl _ | (refine Below.size (B := ?_) ?_; rotate_left; assumption) | (simp; done) | (simp; omega))) | (refine Below.trans (b := ?_) ?_ (Below.mono (B := ?_) ?_ ?_); rotate_left 3; (next => assumption); (next => first | omega | exact Nat.le_refl _ | (refine Below.size (B := ?_) ?_; rotate_left; assumption) | (simp; done) | (simp; omega))))))); (next => first | assumption | exact sm_i64 (by omega) (by omega)); (next => first | assumption | exact sm_i64 (by omega) (by omega)); rintro e w6 ⟨rfl, hi6, hu6⟩; have hq := held1_upd (by assumption) hu6 (by first | omega | (simp; omega)) l0_0) | fail))
  all_goals
    clear hsub
    obtain ⟨hq1, hq2⟩ := hq
    go_wp2_with fail
    refine (newint_any level (by omega) (by omega) _).mono ?_
    rintro e w7 ⟨b7, rfl, hi7, hg7, hb7⟩
    obtain ⟨hq71, hq72⟩ := held1 hb7 l0_0 ⟨hq1, hq2⟩
    have hx7 := hi6.below hb7
    have hs7 := hq71.size
    go_wp2_with fail
    refine (add_any _ _ _ _ _ _ _ _ _ _ hx7 hx7 hi7 (sm_i64 (by omega) (by omega)) (sm_i64 (by omega) (by omega))).mono ?_
    rintro e w8 ⟨rfl, hi8, hu8⟩
    obtain ⟨hq81, hq82⟩ := held1_upd ⟨hq71, hq72⟩ hu8 (by first | omega | (simp; omega)) l0_0
    clear hx7 hi7 hu8 hq2 hq72
    go_wp2_with fail
    refine (newint_any (burst * den) (by omega) (by omega) _).mono ?_
    rintro e w9 ⟨b9, rfl, hi9, hg9, hb9⟩
    have hq91 := hq81.trans (hb9.mono hq81.size)
    have hx9 := hi8.below hb9
    clear hq82
    go_wp2_with fail
    refine (cmp_any _ _ _ _ _ _ _ hx9 hi9 (sm_i64 (by omega) (by omega)) (sm_i64 (by omega) (by omega))).mono ?_
    rintro e w10 ⟨rfl, q, rfl⟩
    by_cases hgt : burst * den < num * (now - at0) + level
    · have hcv : cmp (num * (now - at0) + level) (burst * den) = 1 := by rw [cmp, if_neg (by omega), if_pos hgt]
      rw [hcv]
      have HR := Lib.hid (int64_any _ _ _ _ (hi9.below (below_drewN (Below.refl _ _) q)) (by omega) (by omega))
      have HV : Hid (ilevel num den burst level at0 now = burst * den) := Lib.hid (by rw [HIL.out, if_pos hgt])
      clear hgt hcv
      go_wp2_with fail
      refine HR.out.mono ?_
      rintro e w11 ⟨rfl, rfl⟩
      go_wp2_with fail
      go_ret
      exact ⟨ret_int HV.out.symm, below_drewN (hB.trans (hq91.mono hB.size)) q⟩
    · have hcv : cmp (num * (now - at0) + level) (burst * den) ≤ 0 := cmp_le hgt
      have HR := Lib.hid (int64_any _ _ _ _ (hx9.below (below_drewN (Below.refl _ _) q)) (by omega) (by omega))
      have HV : Hid (ilevel num den burst level at0 now = num * (now - at0) + level) := Lib.hid (by rw [HIL.out, if_neg hgt])
      generalize cmp (num * (now - at0) + level) (burst * den) = cv at hcv ⊢
      clear hgt
      go_wp2_with fail
      refine HR.out.mono ?_
      rintro e w11 ⟨rfl, rfl⟩
      go_wp2_with fail
      go_ret
      exact ⟨ret_int HV.out.symm, below_drewN (hB.trans (hq91.mono hB.size)) q⟩
end Go.Proofs.YtfcpmcdlgkfolaaDoor.Bucket

namespace Go.Proofs.YtfcpmcdlgkfolaaDoor.Bucket
open Go.RowKit Go.Proofs.YtfcpmcdlgkfolaaDoor.Big





end Go.Proofs.YtfcpmcdlgkfolaaDoor.Bucket

namespace Go.Proofs.YtfcpmcdlgkfolaaDoor.Bucket
open Go.RowKit

/-- The earliest time, and whether there is one. -/
def rdy (num den burst level at0 n : Int) : Int × Bool :=
  if n * den ≤ level then (at0, true)
  else if burst < n ∨ num = 0 then (0, false)
  else if 1099511627776 < at0 + (n * den - level + num - 1) / num then (0, false)
  else (at0 + (n * den - level + num - 1) / num, true)

theorem rdy_can {num den burst level at0 n t : Int} (h : bright num den burst level at0 = true) (hn0 : 0 ≤ n) (hn1 : n ≤ 1048576) (ht0 : at0 ≤ t) (ht1 : t ≤ 1099511627776) :
    n * den ≤ lev num den burst level at0 t ↔ ((rdy num den burst level at0 n).2 = true ∧ (rdy num den burst level at0 n).1 ≤ t) := by
  obtain ⟨⟨a0, a1⟩, ⟨a2, a3⟩, a4, a5⟩ := rng_iff.1 (bright_rng h)
  have hlv : 0 ≤ level ∧ level ≤ burst * den := by
    simp only [bright, Bool.and_eq_true, decide_eq_true_eq] at h
    exact ⟨h.1.1.1.2, h.1.1.2⟩
  obtain ⟨l0, l1⟩ := hlv
  have q0 : 0 ≤ num * (t - at0) := Int.mul_nonneg a0 (by omega)
  have hbn : n ≤ burst → n * den ≤ burst * den := fun hh => Int.mul_le_mul_of_nonneg_right hh (by omega)
  have hbn' : burst < n → burst * den < n * den := fun hh => Int.mul_lt_mul_of_pos_right hh (by omega)
  unfold rdy
  by_cases h1 : n * den ≤ level
  · rw [if_pos h1]
    simp only [true_and]
    constructor
    · intro _; exact ht0
    · intro _; unfold lev; split <;> omega
  · rw [if_neg h1]
    by_cases h2 : burst < n ∨ num = 0
    · rw [if_pos h2]
      simp only [Bool.false_eq_true, false_and, iff_false]
      rcases h2 with h2 | h2
      · have := hbn' h2
        unfold lev; split <;> omega
      · subst h2
        unfold lev
        rw [Int.zero_mul]
        split <;> omega
    · rw [if_neg h2]
      have hnum : 1 ≤ num := by omega
      have hb := hbn (by omega)
      have key : (n * den - level + num - 1) / num ≤ t - at0 ↔ n * den - level ≤ num * (t - at0) := by
        rw [← Int.lt_add_one_iff, Int.ediv_lt_iff_lt_mul (by omega), Int.add_mul, Int.one_mul, Int.mul_comm (t - at0)]
        omega
      have hlev : n * den ≤ lev num den burst level at0 t ↔ n * den - level ≤ num * (t - at0) := by
        unfold lev
        split
        · constructor
          · intro _; omega
          · intro _; exact hb
        · omega
      rw [hlev, ← key]
      split
      · simp only [Bool.false_eq_true, false_and, iff_false]; omega
      · simp only [true_and]; omega
theorem rdy_bd {num den burst level at0 n : Int} (h : bright num den burst level at0 = true) (hok : (rdy num den burst level at0 n).2 = true) : at0 ≤ (rdy num den burst level at0 n).1 ∧ (rdy num den burst level at0 n).1 ≤ 1099511627776 := by
  obtain ⟨⟨a0, a1⟩, _⟩ := rng_iff.1 (bright_rng h)
  have hat : 0 ≤ at0 ∧ at0 ≤ 1099511627776 := by
    simp only [bright, Bool.and_eq_true, decide_eq_true_eq] at h
    exact ⟨h.1.2, h.2⟩
  unfold rdy at hok ⊢
  split
  · simp only; omega
  · rename_i h1
    rw [if_neg h1] at hok
    split
    · rename_i h2; rw [if_pos h2] at hok; cases hok
    · rename_i h2
      rw [if_neg h2] at hok
      have hd : 0 ≤ (n * den - level + num - 1) / num := Int.ediv_nonneg (by omega) (by omega)
      split
      · rename_i h3; rw [if_pos h3] at hok; cases hok
      · simp only; omega
theorem rdy_no {num den burst level at0 n : Int} (hok : (rdy num den burst level at0 n).2 = false) : (rdy num den burst level at0 n).1 = 0 := by
  unfold rdy at hok ⊢
  split
  · rename_i h1; rw [if_pos h1] at hok; cases hok
  · rename_i h1
    rw [if_neg h1] at hok
    split
    · rfl
    · rename_i h2
      rw [if_neg h2] at hok
      split
      · rfl
      · rename_i h3; rw [if_neg h3] at hok; cases hok
end Go.Proofs.YtfcpmcdlgkfolaaDoor.Bucket

namespace Go.Proofs.YtfcpmcdlgkfolaaDoor.Bucket
open Go.RowKit Go.Proofs.YtfcpmcdlgkfolaaDoor.Big

theorem bright0 (num den burst : Int) : bright num den burst 0 0 = rng num den burst := by
  cases h : rng num den burst
  · simp [bright, h]
  · obtain ⟨⟨a0, a1⟩, ⟨a2, a3⟩, a4, a5⟩ := rng_iff.1 h
    have p0 : 0 ≤ burst * den := Int.mul_nonneg a4 (by omega)
    simp [bright, h, p0]

set_option maxRecDepth 100000 in
set_option maxHeartbeats 1000000 in
theorem full_bad (num den burst : Int) (w : World) (h : rng num den burst = false) :
    Calls Tryd.prog 46 #[(.int .i64 num), (.int .i64 den), (.int .i64 burst)] w fun e w' => e = .returned (.tuple #[.agg #[(.int .i64 0), (.int .i64 0), (.int .i64 0), (.int .i64 0), (.int .i64 0)], (.int .i64 2)]) ∧ Below w.heap.size w w' := by
  have H1 : Hid (∀ W, Calls Tryd.prog 73 #[.agg #[(.int .i64 num), (.int .i64 den), (.int .i64 burst), (.int .i64 0), (.int .i64 0)]] W fun e w' => e = .returned (.bool false) ∧ Below W.heap.size W w') := Lib.hid fun W => by have := right_any num den burst 0 0 W; rwa [bright0, h] at this
  clear h
  go_enter Tryd.func46, Tryd.ntmps46
  go_wp2_with fail
  refine (H1.out _).mono ?_
  rintro e w1 ⟨rfl, hb⟩
  have c1_0 := fun o => Below.cell hb (p := ⟨w.heap.size, o, none⟩) (by first | omega | exact Below.size (by assumption) | (simp; done) | (simp; omega))
  have f1_0 := fun o => Below.frozen hb (p := ⟨w.heap.size, o, none⟩) (by first | omega | exact Below.size (by assumption) | (simp; done) | (simp; omega))
  have l1_0 : w.heap.size < w1.heap.size := Nat.lt_of_lt_of_le (by first | omega | exact Below.size (by assumption) | (simp; done) | (simp; omega)) (Below.size hb)
  have c1_1 := fun o => Below.cell hb (p := ⟨w.heap.size + 1, o, none⟩) (by first | omega | exact Below.size (by assumption) | (simp; done) | (simp; omega))
  have l1_1 : w.heap.size + 1 < w1.heap.size := Nat.lt_of_lt_of_le (by first | omega | exact Below.size (by assumption) | (simp; done) | (simp; omega)) (Below.size hb)
  go_wp2_with fail
  refine bodyPost_ret (v := .tuple #[.agg #[(.int .i64 0), (.int .i64 0), (.int .i64 0), (.int .i64 0), (.int .i64 0)], (.int .i64 2)]) (by simp [results, Tryd.results46, go_sem, *]) rfl ?_
  exact ⟨rfl, (by repeat (first | (with_reducible exact Below.refl _ _) | (with_reducible assumption) | (with_reducible refine Below.drew ?_) | (with_reducible refine below_drewN ?_ _) | ((with_reducible refine Below.setCell ?_ ?_ _); rotate_left; (next => first | omega | exact Nat.le_refl _ | (refine Below.size (B := ?_) ?_; rotate_left; assumption) | (simp; done) | (simp; omega))) | ((with_reducible refine Below.alloc ?_ ?_ _); rotate_left; (next => first | omega | exact Nat.le_refl _ | (refine Below.size (B := ?_) ?_; rotate_left; assumption) | (simp; done) | (simp; omega))) | ((with_reducible refine Below.trans (b := ?_) ?_ (Below.mono (B := ?_) ?_ ?_)); rotate_left 3; (next => (with_reducible assumption)); (next => first | omega | exact Nat.le_refl _ | (refine Below.size (B := ?_) ?_; rotate_left; assumption) | (simp; done) | (simp; omega)))))⟩

set_option maxRecDepth 100000 in
set_option maxHeartbeats 1000000 in
theorem full_ok (num den burst : Int) (w : World) (h : rng num den burst = true) :
    Calls Tryd.prog 46 #[(.int .i64 num), (.int .i64 den), (.int .i64 burst)] w fun e w' => e = .returned (.tuple #[.agg #[(.int .i64 num), (.int .i64 den), (.int .i64 burst), (.int .i64 (burst * den)), (.int .i64 0)], (.int .i64 0)]) ∧ Below w.heap.size w w' := by
  have H1 : Hid (∀ W, Calls Tryd.prog 73 #[.agg #[(.int .i64 num), (.int .i64 den), (.int .i64 burst), (.int .i64 0), (.int .i64 0)]] W fun e w' => e = .returned (.bool true) ∧ Below W.heap.size W w') := Lib.hid fun W => by have := right_any num den burst 0 0 W; rwa [bright0, h] at this
  obtain ⟨⟨a0, a1⟩, ⟨a2, a3⟩, a4, a5⟩ := rng_iff.1 h
  have p0 : 0 ≤ burst * den := Int.mul_nonneg a4 (by omega)
  have p1 : burst * den ≤ 1048576 * 1048576 := Int.mul_le_mul a5 a3 (by omega) (by omega)
  clear h
  go_enter Tryd.func46, Tryd.ntmps46
  go_wp2_with fail
  refine (H1.out _).mono ?_
  rintro e w1 ⟨rfl, hb⟩
  have c1_0 := fun o => Below.cell hb (p := ⟨w.heap.size, o, none⟩) (by first | omega | exact Below.size (by assumption) | (simp; done) | (simp; omega))
  have f1_0 := fun o => Below.frozen hb (p := ⟨w.heap.size, o, none⟩) (by first | omega | exact Below.size (by assumption) | (simp; done) | (simp; omega))
  have l1_0 : w.heap.size < w1.heap.size := Nat.lt_of_lt_of_le (by first | omega | exact Below.size (by assumption) | (simp; done) | (simp; omega)) (Below.size hb)
  have c1_1 := fun o => Below.cell hb (p := ⟨w.heap.size + 1, o, none⟩) (by first | omega | exact Below.size (by assumption) | (simp; done) | (simp; omega))
  have f1_1 := fun o => Below.frozen hb (p := ⟨w.heap.size + 1, o, none⟩) (by first | omega | exact Below.size (by assumption) | (simp; done) | (simp; omega))
  have l1_1 : w.heap.size + 1 < w1.heap.size := Nat.lt_of_lt_of_le (by first | omega | exact Below.size (by assumption) | (simp; done) | (simp; omega)) (Below.size hb)
  go_wp2_with fail
  refine bodyPost_ret (v := .tuple #[.agg #[(.int .i64 num), (.int .i64 den), (.int .i64 burst), (.int .i64 (burst * den)), (.int .i64 0)], (.int .i64 0)]) (by simp [results, Tryd.results46, go_sem, *]) rfl ?_
  exact ⟨rfl, (by repeat (first | (with_reducible exact Below.refl _ _) | (with_reducible assumption) | (with_reducible refine Below.drew ?_) | (with_reducible refine below_drewN ?_ _) | ((with_reducible refine Below.setCell ?_ ?_ _); rotate_left; (next => first | omega | exact Nat.le_refl _ | (refine Below.size (B := ?_) ?_; rotate_left; assumption) | (simp; done) | (simp; omega))) | ((with_reducible refine Below.alloc ?_ ?_ _); rotate_left; (next => first | omega | exact Nat.le_refl _ | (refine Below.size (B := ?_) ?_; rotate_left; assumption) | (simp; done) | (simp; omega))) | ((with_reducible refine Below.trans (b := ?_) ?_ (Below.mono (B := ?_) ?_ ?_)); rotate_left 3; (next => (with_reducible assumption)); (next => first | omega | exact Nat.le_refl _ | (refine Below.size (B := ?_) ?_; rotate_left; assumption) | (simp; done) | (simp; omega)))))⟩





end Go.Proofs.YtfcpmcdlgkfolaaDoor.Bucket
