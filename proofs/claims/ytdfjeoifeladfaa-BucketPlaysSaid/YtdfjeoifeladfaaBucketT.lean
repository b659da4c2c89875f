/- Walks: bucket.Take. -/
import Derived.Test.YtdfjeoifeladfaaBucketB0
import Derived.Test.YtdfjeoifeladfaaBucketB1
import Derived.Test.YtdfjeoifeladfaaBucketB2
import Derived.Test.YtdfjeoifeladfaaMemT
namespace Go.Proofs.Ytdfjeoifeladfaa.Bucket
open Go.RowKit Go.Proofs.Ytdfjeoifeladfaa.Big

theorem fill_ok (num den burst level at0 now : Int) (w : World) (h : bright num den burst level at0 = true) (hn0 : at0 ≤ now) (hn1 : now ≤ 1099511627776) :
    Calls Try.prog 109 #[.agg #[.int .i64 num, .int .i64 den, .int .i64 burst, .int .i64 level, .int .i64 at0], .int .i64 now] w fun e w' => e = .returned (.tuple #[.agg #[.int .i64 num, .int .i64 den, .int .i64 burst, .int .i64 (lev num den burst level at0 now), .int .i64 now], .int .i64 0]) ∧ Below w.heap.size w w' := by
  by_cases hz : num = 0
  · exact fill_ok0 num den burst level at0 now w h hn0 hn1 hz
  · by_cases hg : (burst * den - level) / num < now - at0
    · exact fill_ok1 num den burst level at0 now w h hn0 hn1 hz hg
    · exact fill_ok2 num den burst level at0 now w h hn0 hn1 hz hg

theorem lev_bd {num den burst level at0 now : Int} (h : bright num den burst level at0 = true) (hn : at0 ≤ now) : 0 ≤ lev num den burst level at0 now ∧ lev num den burst level at0 now ≤ burst * den ∧ burst * den ≤ 1099511627776 ∧ (1 ≤ den ∧ den ≤ 1048576) := by
  obtain ⟨⟨a0, a1⟩, ⟨a2, a3⟩, a4, a5⟩ := rng_iff.1 (bright_rng h)
  have p0 : 0 ≤ burst * den := Int.mul_nonneg a4 (by omega)
  have p1 : burst * den ≤ 1048576 * 1048576 := Int.mul_le_mul a5 a3 (by omega) (by omega)
  have q0 : 0 ≤ num * (now - at0) := Int.mul_nonneg a0 (by omega)
  have hlv : 0 ≤ level := by
    simp only [bright, Bool.and_eq_true, decide_eq_true_eq] at h
    exact h.1.1.1.2
  refine ⟨?_, ?_, by omega, a2, a3⟩
  · unfold lev; split <;> omega
  · unfold lev; split <;> omega

set_option maxRecDepth 100000 in
set_option maxHeartbeats 4000000 in
theorem take_err (num den burst level at0 sat sb er : Int) (w : World) (he : (er == 0) = false)
    (HF : Hid (∀ W, Calls Try.prog 109 #[.agg #[.int .i64 num, .int .i64 den, .int .i64 burst, .int .i64 level, .int .i64 at0], .int .i64 sat] W fun e w' => e = .returned (.tuple #[.agg #[.int .i64 0, .int .i64 0, .int .i64 0, .int .i64 0, .int .i64 0], .int .i64 er]) ∧ Below W.heap.size W w')) :
    Calls Try.prog 77 #[.agg #[.int .i64 num, .int .i64 den, .int .i64 burst, .int .i64 level, .int .i64 at0], .agg #[.int .i64 sat, .int .i64 sb]] w fun e w' => e = .returned (.tuple #[.agg #[.int .i64 0, .int .i64 0, .int .i64 0, .int .i64 0, .int .i64 0], .bool false, .int .i64 er]) ∧ Below w.heap.size w w' := by
  have he' : (er != 0) = true := by rw [bne, he]; rfl
  go_enter Try.func77, Try.ntmps77
  go_wp2_with fail
  refine (HF.out _).mono ?_
  rintro e w1 ⟨rfl, hb⟩
  have c1_0 := fun o => Below.cell hb (p := ⟨w.heap.size, o, none⟩) (by first | omega | exact Below.size (by assumption) | (simp; done) | (simp; omega))
  have f1_0 := fun o => Below.frozen hb (p := ⟨w.heap.size, o, none⟩) (by first | omega | exact Below.size (by assumption) | (simp; done) | (simp; omega))
  have l1_0 : w.heap.size < w1.heap.size := Nat.lt_of_lt_of_le (by first | omega | exact Below.size (by assumption) | (simp; done) | (simp; omega)) (Below.size hb)
  have c1_1 := fun o => Below.cell hb (p := ⟨w.heap.size + 1, o, none⟩) (by first | omega | exact Below.size (by assumption) | (simp; done) | (simp; omega))
  have l1_1 : w.heap.size + 1 < w1.heap.size := Nat.lt_of_lt_of_le (by first | omega | exact Below.size (by assumption) | (simp; done) | (simp; omega)) (Below.size hb)
  have c1_2 := fun o => Below.cell hb (p := ⟨w.heap.size + 1 + 1, o, none⟩) (by first | omega | exact Below.size (by assumption) | (simp; done) | (simp; omega))
  have f1_2 := fun o => Below.frozen hb (p := ⟨w.heap.size + 1 + 1, o, none⟩) (by first | omega | exact Below.size (by assumption) | (simp; done) | (simp; omega))
  have l1_2 : w.heap.size + 1 + 1 < w1.heap.size := Nat.lt_of_lt_of_le (by first | omega | exact Below.size (by assumption) | (simp; done) | (simp; omega)) (Below.size hb)
  go_wp2_with fail
  refine bodyPost_ret (v := .tuple #[.agg #[.int .i64 0, .int .i64 0, .int .i64 0, .int .i64 0, .int .i64 0], .bool false, .int .i64 er]) (by simp [results, Try.results77, go_sem, *]) rfl ?_
  exact ⟨rfl, (by repeat (first | (with_reducible exact Below.refl _ _) | (with_reducible assumption) | (with_reducible refine Below.drew ?_) | (with_reducible refine below_drewN ?_ _) | ((with_reducible refine Below.setCell ?_ ?_ _); rotate_left; (next => first | omega | exact Nat.le_refl _ | (refine Below.size (B := ?_) ?_; rotate_left; assumption) | (simp; done) | (simp; omega))) | ((with_reducible refine Below.alloc ?_ ?_ _); rotate_left; (next => first | omega | exact Nat.le_refl _ | (refine Below.size (B := ?_) ?_; rotate_left; assumption) | (simp; done) | (simp; omega))) | ((with_reducible refine Below.trans (b := ?_) ?_ (Below.mono (B := ?_) ?_ ?_)); rotate_left 3; (next => (with_reducible assumption)); (next => first | omega | exact Nat.le_refl _ | (refine Below.size (B := ?_) ?_; rotate_left; assumption) | (simp; done) | (simp; omega)))))⟩

set_option maxRecDepth 100000 in
set_option maxHeartbeats 4000000 in
theorem take_bytes (num den burst level at0 sat sb lv : Int) (w : World) (hs : sb < 0 ∨ (0 ≤ sb ∧ 1048576 < sb))
    (HF : Hid (∀ W, Calls Try.prog 109 #[.agg #[.int .i64 num, .int .i64 den, .int .i64 burst, .int .i64 level, .int .i64 at0], .int .i64 sat] W fun e w' => e = .returned (.tuple #[.agg #[.int .i64 num, .int .i64 den, .int .i64 burst, .int .i64 lv, .int .i64 sat], .int .i64 0]) ∧ Below W.heap.size W w')) :
    Calls Try.prog 77 #[.agg #[.int .i64 num, .int .i64 den, .int .i64 burst, .int .i64 level, .int .i64 at0], .agg #[.int .i64 sat, .int .i64 sb]] w fun e w' => e = .returned (.tuple #[.agg #[.int .i64 0, .int .i64 0, .int .i64 0, .int .i64 0, .int .i64 0], .bool false, .int .i64 2]) ∧ Below w.heap.size w w' := by
  rcases hs with h1 | ⟨h1, h2⟩
  all_goals
    go_enter Try.func77, Try.ntmps77
    go_wp2_with fail
    refine (HF.out _).mono ?_
    rintro e w1 ⟨rfl, hb⟩
    have c1_0 := fun o => Below.cell hb (p := ⟨w.heap.size, o, none⟩) (by first | omega | exact Below.size (by assumption) | (simp; done) | (simp; omega))
    have f1_0 := fun o => Below.frozen hb (p := ⟨w.heap.size, o, none⟩) (by first | omega | exact Below.size (by assumption) | (simp; done) | (simp; omega))
    have l1_0 : w.heap.size < w1.heap.size := Nat.lt_of_lt_of_le (by first | omega | exact Below.size (by assumption) | (simp; done) | (simp; omega)) (Below.size hb)
    have c1_1 := fun o => Below.cell hb (p := ⟨w.heap.size + 1, o, none⟩) (by first | omega | exact Below.size (by assumption) | (simp; done) | (simp; omega))
    have l1_1 : w.heap.size + 1 < w1.heap.size := Nat.lt_of_lt_of_le (by first | omega | exact Below.size (by assumption) | (simp; done) | (simp; omega)) (Below.size hb)
    have c1_2 := fun o => Below.cell hb (p := ⟨w.heap.size + 1 + 1, o, none⟩) (by first | omega | exact Below.size (by assumption) | (simp; done) | (simp; omega))
    have f1_2 := fun o => Below.frozen hb (p := ⟨w.heap.size + 1 + 1, o, none⟩) (by first | omega | exact Below.size (by assumption) | (simp; done) | (simp; omega))
    have l1_2 : w.heap.size + 1 + 1 < w1.heap.size := Nat.lt_of_lt_of_le (by first | omega | exact Below.size (by assumption) | (simp; done) | (simp; omega)) (Below.size hb)
    go_wp2_with fail
    refine bodyPost_ret (v := .tuple #[.agg #[.int .i64 0, .int .i64 0, .int .i64 0, .int .i64 0, .int .i64 0], .bool false, .int .i64 2]) (by simp [results, Try.results77, go_sem, *]) rfl ?_
    exact ⟨rfl, (by repeat (first | (with_reducible exact Below.refl _ _) | (with_reducible assumption) | (with_reducible refine Below.drew ?_) | (with_reducible refine below_drewN ?_ _) | ((with_reducible refine Below.setCell ?_ ?_ _); rotate_left; (next => first | omega | exact Nat.le_refl _ | (refine Below.size (B := ?_) ?_; rotate_left; assumption) | (simp; done) | (simp; omega))) | ((with_reducible refine Below.alloc ?_ ?_ _); rotate_left; (next => first | omega | exact Nat.le_refl _ | (refine Below.size (B := ?_) ?_; rotate_left; assumption) | (simp; done) | (simp; omega))) | ((with_reducible refine Below.trans (b := ?_) ?_ (Below.mono (B := ?_) ?_ ?_)); rotate_left 3; (next => (with_reducible assumption)); (next => first | omega | exact Nat.le_refl _ | (refine Below.size (B := ?_) ?_; rotate_left; assumption) | (simp; done) | (simp; omega)))))⟩
end Go.Proofs.Ytdfjeoifeladfaa.Bucket
