/- Walks: bucket.Right, the reference's IRight. -/
import Derived.Test.YtoibebmhfcjpfaaGreatDoorZfMem
import Derived.Outline
import Derived.BigQuiet
import Derived.Deep.QuietTactic
namespace Go.Proofs.YtoibebmhfcjpfaaGreatDoor.Bucket
open Go.RowKit

/-- Three numbers in their ranges. -/
def rng (num den burst : Int) : Bool := decide (0 ≤ num) && decide (num ≤ 1048576) && decide (1 ≤ den) && decide (den ≤ 1048576) && decide (0 ≤ burst) && decide (burst ≤ 1048576)
def bright (num den burst level at0 : Int) : Bool := rng num den burst && decide (0 ≤ level) && decide (level ≤ burst * den) && decide (0 ≤ at0) && decide (at0 ≤ 1099511627776)
theorem rng_iff {num den burst : Int} : rng num den burst = true ↔ (0 ≤ num ∧ num ≤ 1048576) ∧ (1 ≤ den ∧ den ≤ 1048576) ∧ 0 ≤ burst ∧ burst ≤ 1048576 := by
  simp [rng]; omega
theorem rng_not {num den burst : Int} (h : rng num den burst = false) : num < 0 ∨ 1048576 < num ∨ den < 1 ∨ 1048576 < den ∨ burst < 0 ∨ 1048576 < burst := by
  simp [rng] at h; omega
theorem bright_rng {num den burst level at0 : Int} (h : bright num den burst level at0 = true) : rng num den burst = true := by
  simp only [bright, Bool.and_eq_true] at h
  exact h.1.1.1.1

set_option maxRecDepth 100000 in
set_option maxHeartbeats 4000000 in
theorem right_any (num den burst level at0 : Int) (w : World) :
    Calls Tryz.prog 39 #[.agg #[.int .i64 num, .int .i64 den, .int .i64 burst, .int .i64 level, .int .i64 at0]] w fun e w' => e = .returned (.bool (bright num den burst level at0)) ∧ Below w.heap.size w w' := by
  cases hr : rng num den burst
  · have hn := rng_not hr
    have HV : Hid (bright num den burst level at0 = false) := Lib.hid (by simp [bright, hr])
    clear hr
    go_enter Tryz.func39, Tryz.ntmps39
    go_wp2_with fail
    all_goals go_ret
    all_goals exact ⟨ret_bool (by rw [HV.out] <;> simp <;> omega), (by repeat (first | (with_reducible exact Below.refl _ _) | (with_reducible assumption) | (with_reducible refine Below.drew ?_) | (with_reducible refine below_drewN ?_ _) | ((with_reducible refine Below.setCell ?_ ?_ _); rotate_left; (next => first | omega | exact Nat.le_refl _ | (refine Below.size (B := ?_) ?_; rotate_left; assumption) | (simp; done) | (simp; omega))) | ((with_reducible refine Below.alloc ?_ ?_ _); rotate_left; (next => first | omega | exact Nat.le_refl _ | (refine Below.size (B := ?_) ?_; rotate_left; assumption) | (simp; done) | (simp; omega))) | ((with_reducible refine Below.trans (b := ?_) ?_ (Below.mono (B := ?_) ?_ ?_)); rotate_left 3; (next => (with_reducible assumption)); (next => first | omega | exact Nat.le_refl _ | (refine Below.size (B := ?_) ?_; rotate_left; assumption) | (simp; done) | (simp; omega))) | exact Below.refl _ _ | assumption | refine Below.drew ?_ | refine below_drewN ?_ _ | refine Below.alloc ?_ (by first | omega | exact Below.size (by assumption) | (simp; done) | (simp; omega)) _ | refine Below.setCell ?_ (by first | omega | exact Below.size (by assumption) | (simp; done) | (simp; omega)) _ | refine Below.trans ?_ (Below.mono (by assumption) (by first | omega | exact Below.size (by assumption) | (simp; done) | (simp; omega)))))⟩
  · obtain ⟨⟨a0, a1⟩, ⟨a2, a3⟩, a4, a5⟩ := rng_iff.1 hr
    have p0 : 0 ≤ burst * den := Int.mul_nonneg a4 (by omega)
    have p1 : burst * den ≤ 1048576 * 1048576 := Int.mul_le_mul a5 a3 (by omega) (by omega)
    have HV : Hid (bright num den burst level at0 = (decide (0 ≤ level) && decide (level ≤ burst * den) && decide (0 ≤ at0) && decide (at0 ≤ 1099511627776))) := Lib.hid (by simp [bright, hr])
    clear hr
    go_enter Tryz.func39, Tryz.ntmps39
    go_wp2_with fail
    all_goals go_ret
    all_goals exact ⟨ret_bool (by rw [HV.out]; rw [Bool.eq_iff_iff]; simp [*] <;> omega), (by repeat (first | (with_reducible exact Below.refl _ _) | (with_reducible assumption) | (with_reducible refine Below.drew ?_) | (with_reducible refine below_drewN ?_ _) | ((with_reducible refine Below.setCell ?_ ?_ _); rotate_left; (next => first | omega | exact Nat.le_refl _ | (refine Below.size (B := ?_) ?_; rotate_left; assumption) | (simp; done) | (simp; omega))) | ((with_reducible refine Below.alloc ?_ ?_ _); rotate_left; (next => first | omega | exact Nat.le_refl _ | (refine Below.size (B := ?_) ?_; rotate_left; assumption) | (simp; done) | (simp; omega))) | ((with_reducible refine Below.trans (b := ?_) ?_ (Below.mono (B := ?_) ?_ ?_)); rotate_left 3; (next => (with_reducible assumption)); (next => first | omega | exact Nat.le_refl _ | (refine Below.size (B := ?_) ?_; rotate_left; assumption) | (simp; done) | (simp; omega))) | exact Below.refl _ _ | assumption | refine Below.drew ?_ | refine below_drewN ?_ _ | refine Below.alloc ?_ (by first | omega | exact Below.size (by assumption) | (simp; done) | (simp; omega)) _ | refine Below.setCell ?_ (by first | omega | exact Below.size (by assumption) | (simp; done) | (simp; omega)) _ | refine Below.trans ?_ (Below.mono (by assumption) (by first | omega | exact Below.size (by assumption) | (simp; done) | (simp; omega)))))⟩

end Go.Proofs.YtoibebmhfcjpfaaGreatDoor.Bucket

namespace Go.Proofs.YtoibebmhfcjpfaaGreatDoor.Bucket
open Go.RowKit

set_option maxRecDepth 100000 in
set_option maxHeartbeats 4000000 in
theorem fill_bad (num den burst level at0 now : Int) (w : World) (h : bright num den burst level at0 = false) :
    Calls Tryz.prog 42 #[.agg #[.int .i64 num, .int .i64 den, .int .i64 burst, .int .i64 level, .int .i64 at0], .int .i64 now] w fun e w' => e = .returned (.tuple #[.agg #[.int .i64 0, .int .i64 0, .int .i64 0, .int .i64 0, .int .i64 0], .int .i64 1]) ∧ Below w.heap.size w w' := by
  have h1 := fun W => right_any num den burst level at0 W
  rw [h] at h1
  have H1 := Lib.hid h1
  clear h1 h
  go_enter Tryz.func42, Tryz.ntmps42
  go_wp2_with fail
  refine (H1.out _).mono ?_
  rintro e w1 ⟨rfl, hb⟩
  have c1_0 := fun o => Below.cell hb (p := ⟨w.heap.size, o, none⟩) (by first | omega | exact Below.size (by assumption) | (simp; done) | (simp; omega))
  have l1_0 : w.heap.size < w1.heap.size := Nat.lt_of_lt_of_le (by first | omega | exact Below.size (by assumption) | (simp; done) | (simp; omega)) (Below.size hb)
  have c1_1 := fun o => Below.cell hb (p := ⟨w.heap.size + 1, o, none⟩) (by first | omega | exact Below.size (by assumption) | (simp; done) | (simp; omega))
  have f1_1 := fun o => Below.frozen hb (p := ⟨w.heap.size + 1, o, none⟩) (by first | omega | exact Below.size (by assumption) | (simp; done) | (simp; omega))
  have l1_1 : w.heap.size + 1 < w1.heap.size := Nat.lt_of_lt_of_le (by first | omega | exact Below.size (by assumption) | (simp; done) | (simp; omega)) (Below.size hb)
  go_wp2_with fail
  refine bodyPost_ret (v := .tuple #[.agg #[.int .i64 0, .int .i64 0, .int .i64 0, .int .i64 0, .int .i64 0], .int .i64 1]) (by simp [results, Tryz.results42, go_sem, *]) rfl ?_
  exact ⟨rfl, (by repeat (first | (with_reducible exact Below.refl _ _) | (with_reducible assumption) | (with_reducible refine Below.drew ?_) | (with_reducible refine below_drewN ?_ _) | ((with_reducible refine Below.setCell ?_ ?_ _); rotate_left; (next => first | omega | exact Nat.le_refl _ | (refine Below.size (B := ?_) ?_; rotate_left; assumption) | (simp; done) | (simp; omega))) | ((with_reducible refine Below.alloc ?_ ?_ _); rotate_left; (next => first | omega | exact Nat.le_refl _ | (refine Below.size (B := ?_) ?_; rotate_left; assumption) | (simp; done) | (simp; omega))) | ((with_reducible refine Below.trans (b := ?_) ?_ (Below.mono (B := ?_) ?_ ?_)); rotate_left 3; (next => (with_reducible assumption)); (next => first | omega | exact Nat.le_refl _ | (refine Below.size (B := ?_) ?_; rotate_left; assumption) | (simp; done) | (simp; omega)))))⟩

set_option maxRecDepth 100000 in
set_option maxHeartbeats 4000000 in
theorem fill_range (num den burst level at0 now : Int) (w : World) (h : bright num den burst level at0 = true) (hr : now < at0 ∨ 1099511627776 < now) :
    Calls Tryz.prog 42 #[.agg #[.int .i64 num, .int .i64 den, .int .i64 burst, .int .i64 level, .int .i64 at0], .int .i64 now] w fun e w' => e = .returned (.tuple #[.agg #[.int .i64 0, .int .i64 0, .int .i64 0, .int .i64 0, .int .i64 0], .int .i64 2]) ∧ Below w.heap.size w w' := by
  have h1 := fun W => right_any num den burst level at0 W
  rw [h] at h1
  have H1 := Lib.hid h1
  clear h1 h
  have hr' : now < at0 ∨ (at0 ≤ now ∧ 1099511627776 < now) := by omega
  clear hr
  rcases hr' with h2 | ⟨h2, h3⟩
  all_goals
    go_enter Tryz.func42, Tryz.ntmps42
    go_wp2_with fail
    refine (H1.out _).mono ?_
    rintro e w1 ⟨rfl, hb⟩
    have c1_0 := fun o => Below.cell hb (p := ⟨w.heap.size, o, none⟩) (by first | omega | exact Below.size (by assumption) | (simp; done) | (simp; omega))
    have l1_0 : w.heap.size < w1.heap.size := Nat.lt_of_lt_of_le (by first | omega | exact Below.size (by assumption) | (simp; done) | (simp; omega)) (Below.size hb)
    have c1_1 := fun o => Below.cell hb (p := ⟨w.heap.size + 1, o, none⟩) (by first | omega | exact Below.size (by assumption) | (simp; done) | (simp; omega))
    have f1_1 := fun o => Below.frozen hb (p := ⟨w.heap.size + 1, o, none⟩) (by first | omega | exact Below.size (by assumption) | (simp; done) | (simp; omega))
    have l1_1 : w.heap.size + 1 < w1.heap.size := Nat.lt_of_lt_of_le (by first | omega | exact Below.size (by assumption) | (simp; done) | (simp; omega)) (Below.size hb)
    go_wp2_with fail
    refine bodyPost_ret (v := .tuple #[.agg #[.int .i64 0, .int .i64 0, .int .i64 0, .int .i64 0, .int .i64 0], .int .i64 2]) (by simp [results, Tryz.results42, go_sem, *]) rfl ?_
    exact ⟨rfl, (by repeat (first | (with_reducible exact Below.refl _ _) | (with_reducible assumption) | (with_reducible refine Below.drew ?_) | (with_reducible refine below_drewN ?_ _) | ((with_reducible refine Below.setCell ?_ ?_ _); rotate_left; (next => first | omega | exact Nat.le_refl _ | (refine Below.size (B := ?_) ?_; rotate_left; assumption) | (simp; done) | (simp; omega))) | ((with_reducible refine Below.alloc ?_ ?_ _); rotate_left; (next => first | omega | exact Nat.le_refl _ | (refine Below.size (B := ?_) ?_; rotate_left; assumption) | (simp; done) | (simp; omega))) | ((with_reducible refine Below.trans (b := ?_) ?_ (Below.mono (B := ?_) ?_ ?_)); rotate_left 3; (next => (with_reducible assumption)); (next => first | omega | exact Nat.le_refl _ | (refine Below.size (B := ?_) ?_; rotate_left; assumption) | (simp; done) | (simp; omega)))))⟩

/-- What a bucket holds after a while. -/
def lev (num den burst level at0 now : Int) : Int := if burst * den < num * (now - at0) + level then burst * den else num * (now - at0) + level

end Go.Proofs.YtoibebmhfcjpfaaGreatDoor.Bucket

namespace Go.Proofs.YtoibebmhfcjpfaaGreatDoor.Bucket
open Go.RowKit

set_option maxRecDepth 100000 in
set_option maxHeartbeats 4000000 in
theorem fill_ok0 (num den burst level at0 now : Int) (w : World) (h : bright num den burst level at0 = true) (hn0 : at0 ≤ now) (hn1 : now ≤ 1099511627776) (hz : num = 0) :
    Calls Tryz.prog 42 #[.agg #[.int .i64 num, .int .i64 den, .int .i64 burst, .int .i64 level, .int .i64 at0], .int .i64 now] w fun e w' => e = .returned (.tuple #[.agg #[.int .i64 num, .int .i64 den, .int .i64 burst, .int .i64 (lev num den burst level at0 now), .int .i64 now], .int .i64 0]) ∧ Below w.heap.size w w' := by
  have h1 := fun W => right_any num den burst level at0 W
  rw [h] at h1
  have H1 := Lib.hid h1
  clear h1
  obtain ⟨⟨a0, a1⟩, ⟨a2, a3⟩, a4, a5⟩ := rng_iff.1 (bright_rng h)
  have p0 : 0 ≤ burst * den := Int.mul_nonneg a4 (by omega)
  have p1 : burst * den ≤ 1048576 * 1048576 := Int.mul_le_mul a5 a3 (by omega) (by omega)
  have hlv : 0 ≤ level ∧ level ≤ burst * den ∧ 0 ≤ at0 := by
    simp only [bright, Bool.and_eq_true, decide_eq_true_eq] at h
    exact ⟨h.1.1.1.2, h.1.1.2, h.1.2⟩
  obtain ⟨b0, b1, b2⟩ := hlv
  clear h
  have q0 : 0 ≤ num * (now - at0) := Int.mul_nonneg a0 (by omega)
  have q1 : num * (now - at0) ≤ 1048576 * 1099511627776 := Int.mul_le_mul a1 (by omega) (by omega) (by omega)
  subst hz
  have HL : Hid (lev 0 den burst level at0 now = level) := Lib.hid (by rw [lev, if_neg (by omega)]; omega)
  clear q0 q1
  go_enter Tryz.func42, Tryz.ntmps42
  go_wp2_with fail
  refine (H1.out _).mono ?_
  rintro e w1 ⟨rfl, hb⟩
  have c1_0 := fun o => Below.cell hb (p := ⟨w.heap.size, o, none⟩) (by first | omega | exact Below.size (by assumption) | (simp; done) | (simp; omega))
  have f1_0 := fun o => Below.frozen hb (p := ⟨w.heap.size, o, none⟩) (by first | omega | exact Below.size (by assumption) | (simp; done) | (simp; omega))
  have l1_0 : w.heap.size < w1.heap.size := Nat.lt_of_lt_of_le (by first | omega | exact Below.size (by assumption) | (simp; done) | (simp; omega)) (Below.size hb)
  have c1_1 := fun o => Below.cell hb (p := ⟨w.heap.size + 1, o, none⟩) (by first | omega | exact Below.size (by assumption) | (simp; done) | (simp; omega))
  have f1_1 := fun o => Below.frozen hb (p := ⟨w.heap.size + 1, o, none⟩) (by first | omega | exact Below.size (by assumption) | (simp; done) | (simp; omega))
  have l1_1 : w.heap.size + 1 < w1.heap.size := Nat.lt_of_lt_of_le (by first | omega | exact Below.size (by assumption) | (simp; done) | (simp; omega)) (Below.size hb)
  go_wp2_with fail
  refine bodyPost_ret (v := .tuple #[.agg #[.int .i64 0, .int .i64 den, .int .i64 burst, .int .i64 (level), .int .i64 now], .int .i64 0]) (by simp [results, Tryz.results42, go_sem, *]) rfl ?_
  exact ⟨by rw [HL.out], (by repeat (first | (with_reducible exact Below.refl _ _) | (with_reducible assumption) | (with_reducible refine Below.drew ?_) | (with_reducible refine below_drewN ?_ _) | ((with_reducible refine Below.setCell ?_ ?_ _); rotate_left; (next => first | omega | exact Nat.le_refl _ | (refine Below.size (B := ?_) ?_; rotate_left; assumption) | (simp; done) | (simp; omega))) | ((with_reducible refine Below.alloc ?_ ?_ _); rotate_left; (next => first | omega | exact Nat.le_refl _ | (refine Below.size (B := ?_) ?_; rotate_left; assumption) | (simp; done) | (simp; omega))) | ((with_reducible refine Below.trans (b := ?_) ?_ (Below.mono (B := ?_) ?_ ?_)); rotate_left 3; (next => (with_reducible assumption)); (next => first | omega | exact Nat.le_refl _ | (refine Below.size (B := ?_) ?_; rotate_left; assumption) | (simp; done) | (simp; omega)))))⟩
end Go.Proofs.YtoibebmhfcjpfaaGreatDoor.Bucket

namespace Go.Proofs.YtoibebmhfcjpfaaGreatDoor.Bucket
open Go.RowKit

set_option maxRecDepth 100000 in
set_option maxHeartbeats 4000000 in
theorem fill_ok1 (num den burst level at0 now : Int) (w : World) (h : bright num den burst level at0 = true) (hn0 : at0 ≤ now) (hn1 : now ≤ 1099511627776) (hz : num ≠ 0) (hg : (burst * den - level) / num < now - at0) :
    Calls Tryz.prog 42 #[.agg #[.int .i64 num, .int .i64 den, .int .i64 burst, .int .i64 level, .int .i64 at0], .int .i64 now] w fun e w' => e = .returned (.tuple #[.agg #[.int .i64 num, .int .i64 den, .int .i64 burst, .int .i64 (lev num den burst level at0 now), .int .i64 now], .int .i64 0]) ∧ Below w.heap.size w w' := by
  have h1 := fun W => right_any num den burst level at0 W
  rw [h] at h1
  have H1 := Lib.hid h1
  clear h1
  obtain ⟨⟨a0, a1⟩, ⟨a2, a3⟩, a4, a5⟩ := rng_iff.1 (bright_rng h)
  have p0 : 0 ≤ burst * den := Int.mul_nonneg a4 (by omega)
  have p1 : burst * den ≤ 1048576 * 1048576 := Int.mul_le_mul a5 a3 (by omega) (by omega)
  have hlv : 0 ≤ level ∧ level ≤ burst * den ∧ 0 ≤ at0 := by
    simp only [bright, Bool.and_eq_true, decide_eq_true_eq] at h
    exact ⟨h.1.1.1.2, h.1.1.2, h.1.2⟩
  obtain ⟨b0, b1, b2⟩ := hlv
  clear h
  have q0 : 0 ≤ num * (now - at0) := Int.mul_nonneg a0 (by omega)
  have q1 : num * (now - at0) ≤ 1048576 * 1099511627776 := Int.mul_le_mul a1 (by omega) (by omega) (by omega)
  have hpos : 1 ≤ num := by omega
  have hq : (burst * den - level) / num < now - at0 ↔ burst * den - level < (now - at0) * num := Int.ediv_lt_iff_lt_mul (by omega)
  have d0 : 0 ≤ (burst * den - level) / num := Int.ediv_nonneg (by omega) (by omega)
  have d1 : (burst * den - level) / num ≤ burst * den - level := Int.ediv_le_self _ (by omega)
  have hm : (now - at0) * num = num * (now - at0) := Int.mul_comm _ _
  have HL : Hid (lev num den burst level at0 now = level + (burst * den - level)) := Lib.hid (by rw [lev, if_pos (by have := hq.1 hg; omega)]; omega)
  clear hz hq hm
  go_enter Tryz.func42, Tryz.ntmps42
  go_wp2_with fail
  refine (H1.out _).mono ?_
  rintro e w1 ⟨rfl, hb⟩
  have c1_0 := fun o => Below.cell hb (p := ⟨w.heap.size, o, none⟩) (by first | omega | exact Below.size (by assumption) | (simp; done) | (simp; omega))
  have f1_0 := fun o => Below.frozen hb (p := ⟨w.heap.size, o, none⟩) (by first | omega | exact Below.size (by assumption) | (simp; done) | (simp; omega))
  have l1_0 : w.heap.size < w1.heap.size := Nat.lt_of_lt_of_le (by first | omega | exact Below.size (by assumption) | (simp; done) | (simp; omega)) (Below.size hb)
  have c1_1 := fun o => Below.cell hb (p := ⟨w.heap.size + 1, o, none⟩) (by first | omega | exact Below.size (by assumption) | (simp; done) | (simp; omega))
  have f1_1 := fun o => Below.frozen hb (p := ⟨w.heap.size + 1, o, none⟩) (by first | omega | exact Below.size (by assumption) | (simp; done) | (simp; omega))
  have l1_1 : w.heap.size + 1 < w1.heap.size := Nat.lt_of_lt_of_le (by first | omega | exact Below.size (by assumption) | (simp; done) | (simp; omega)) (Below.size hb)
  go_wp2_with fail
  refine bodyPost_ret (v := .tuple #[.agg #[.int .i64 num, .int .i64 den, .int .i64 burst, .int .i64 (level + (burst * den - level)), .int .i64 now], .int .i64 0]) (by simp [results, Tryz.results42, go_sem, *]) rfl ?_
  exact ⟨by rw [HL.out], (by repeat (first | (with_reducible exact Below.refl _ _) | (with_reducible assumption) | (with_reducible refine Below.drew ?_) | (with_reducible refine below_drewN ?_ _) | ((with_reducible refine Below.setCell ?_ ?_ _); rotate_left; (next => first | omega | exact Nat.le_refl _ | (refine Below.size (B := ?_) ?_; rotate_left; assumption) | (simp; done) | (simp; omega))) | ((with_reducible refine Below.alloc ?_ ?_ _); rotate_left; (next => first | omega | exact Nat.le_refl _ | (refine Below.size (B := ?_) ?_; rotate_left; assumption) | (simp; done) | (simp; omega))) | ((with_reducible refine Below.trans (b := ?_) ?_ (Below.mono (B := ?_) ?_ ?_)); rotate_left 3; (next => (with_reducible assumption)); (next => first | omega | exact Nat.le_refl _ | (refine Below.size (B := ?_) ?_; rotate_left; assumption) | (simp; done) | (simp; omega)))))⟩
end Go.Proofs.YtoibebmhfcjpfaaGreatDoor.Bucket

namespace Go.Proofs.YtoibebmhfcjpfaaGreatDoor.Bucket
open Go.RowKit

set_option maxRecDepth 100000 in
set_option maxHeartbeats 4000000 in
theorem fill_ok2 (num den burst level at0 now : Int) (w : World) (h : bright num den burst level at0 = true) (hn0 : at0 ≤ now) (hn1 : now ≤ 1099511627776) (hz : num ≠ 0) (hg : ¬ (burst * den - level) / num < now - at0) :
    Calls Tryz.prog 42 #[.agg #[.int .i64 num, .int .i64 den, .int .i64 burst, .int .i64 level, .int .i64 at0], .int .i64 now] w fun e w' => e = .returned (.tuple #[.agg #[.int .i64 num, .int .i64 den, .int .i64 burst, .int .i64 (lev num den burst level at0 now), .int .i64 now], .int .i64 0]) ∧ Below w.heap.size w w' := by
  have h1 := fun W => right_any num den burst level at0 W
  rw [h] at h1
  have H1 := Lib.hid h1
  clear h1
  obtain ⟨⟨a0, a1⟩, ⟨a2, a3⟩, a4, a5⟩ := rng_iff.1 (bright_rng h)
  have p0 : 0 ≤ burst * den := Int.mul_nonneg a4 (by omega)
  have p1 : burst * den ≤ 1048576 * 1048576 := Int.mul_le_mul a5 a3 (by omega) (by omega)
  have hlv : 0 ≤ level ∧ level ≤ burst * den ∧ 0 ≤ at0 := by
    simp only [bright, Bool.and_eq_true, decide_eq_true_eq] at h
    exact ⟨h.1.1.1.2, h.1.1.2, h.1.2⟩
  obtain ⟨b0, b1, b2⟩ := hlv
  clear h
  have q0 : 0 ≤ num * (now - at0) := Int.mul_nonneg a0 (by omega)
  have q1 : num * (now - at0) ≤ 1048576 * 1099511627776 := Int.mul_le_mul a1 (by omega) (by omega) (by omega)
  have hpos : 1 ≤ num := by omega
  have hq : (burst * den - level) / num < now - at0 ↔ burst * den - level < (now - at0) * num := Int.ediv_lt_iff_lt_mul (by omega)
  have d0 : 0 ≤ (burst * den - level) / num := Int.ediv_nonneg (by omega) (by omega)
  have d1 : (burst * den - level) / num ≤ burst * den - level := Int.ediv_le_self _ (by omega)
  have hm : (now - at0) * num = num * (now - at0) := Int.mul_comm _ _
  have hle : (now - at0) * num ≤ burst * den - level := by
    rcases Int.lt_or_le (burst * den - level) ((now - at0) * num) with h3 | h3
    · exact absurd (hq.2 h3) hg
    · exact h3
  have HL : Hid (lev num den burst level at0 now = level + (now - at0) * num) := Lib.hid (by rw [lev, if_neg (by omega)]; omega)
  have q2 : 0 ≤ (now - at0) * num := by omega
  clear hz hq hm q0 q1
  go_enter Tryz.func42, Tryz.ntmps42
  go_wp2_with fail
  refine (H1.out _).mono ?_
  rintro e w1 ⟨rfl, hb⟩
  have c1_0 := fun o => Below.cell hb (p := ⟨w.heap.size, o, none⟩) (by first | omega | exact Below.size (by assumption) | (simp; done) | (simp; omega))
  have f1_0 := fun o => Below.frozen hb (p := ⟨w.heap.size, o, none⟩) (by first | omega | exact Below.size (by assumption) | (simp; done) | (simp; omega))
  have l1_0 : w.heap.size < w1.heap.size := Nat.lt_of_lt_of_le (by first | omega | exact Below.size (by assumption) | (simp; done) | (simp; omega)) (Below.size hb)
  have c1_1 := fun o => Below.cell hb (p := ⟨w.heap.size + 1, o, none⟩) (by first | omega | exact Below.size (by assumption) | (simp; done) | (simp; omega))
  have f1_1 := fun o => Below.frozen hb (p := ⟨w.heap.size + 1, o, none⟩) (by first | omega | exact Below.size (by assumption) | (simp; done) | (simp; omega))
  have l1_1 : w.heap.size + 1 < w1.heap.size := Nat.lt_of_lt_of_le (by first | omega | exact Below.size (by assumption) | (simp; done) | (simp; omega)) (Below.size hb)
  go_wp2_with fail
  refine bodyPost_ret (v := .tuple #[.agg #[.int .i64 num, .int .i64 den, .int .i64 burst, .int .i64 (level + (now - at0) * num), .int .i64 now], .int .i64 0]) (by simp [results, Tryz.results42, go_sem, *]) rfl ?_
  exact ⟨by rw [HL.out], (by repeat (first | (with_reducible exact Below.refl _ _) | (with_reducible assumption) | (with_reducible refine Below.drew ?_) | (with_reducible refine below_drewN ?_ _) | ((with_reducible refine Below.setCell ?_ ?_ _); rotate_left; (next => first | omega | exact Nat.le_refl _ | (refine Below.size (B := ?_) ?_; rotate_left; assumption) | (simp; done) | (simp; omega))) | ((with_reducible refine Below.alloc ?_ ?_ _); rotate_left; (next => first | omega | exact Nat.le_refl _ | (refine Below.size (B := ?_) ?_; rotate_left; assumption) | (simp; done) | (simp; omega))) | ((with_reducible refine Below.trans (b := ?_) ?_ (Below.mono (B := ?_) ?_ ?_)); rotate_left 3; (next => (with_reducible assumption)); (next => first | omega | exact Nat.le_refl _ | (refine Below.size (B := ?_) ?_; rotate_left; assumption) | (simp; done) | (simp; omega)))))⟩
end Go.Proofs.YtoibebmhfcjpfaaGreatDoor.Bucket
