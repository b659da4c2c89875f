/- Walks: bucket.Take. -/
import Derived.Test.YtoibebmhfcjpfaaGreatDoorZfBucketB2
import Derived.Test.YtoibebmhfcjpfaaGreatDoorZfMemT
import Derived.Deep.Cut
import Derived.Outline
namespace Go.Proofs.YtoibebmhfcjpfaaGreatDoor.Bucket
open Go.RowKit Go.Proofs.YtoibebmhfcjpfaaGreatDoor.Big

theorem fill_ok (num den burst level at0 now : Int) (w : World) (h : bright num den burst level at0 = true) (hn0 : at0 ≤ now) (hn1 : now ≤ 1099511627776) :
    Calls Tryz.prog 42 #[.agg #[.int .i64 num, .int .i64 den, .int .i64 burst, .int .i64 level, .int .i64 at0], .int .i64 now] w fun e w' => e = .returned (.tuple #[.agg #[.int .i64 num, .int .i64 den, .int .i64 burst, .int .i64 (lev num den burst level at0 now), .int .i64 now], .int .i64 0]) ∧ Below w.heap.size w w' := by
  by_cases hz : num = 0
  · exact fill_ok0 num den burst level at0 now w h hn0 hn1 hz
  · by_cases hg : (burst * den - level) / num < now - at0
    · exact fill_ok1 num den burst level at0 now w h hn0 hn1 hz hg
    · exact fill_ok2 num den burst level at0 now w h hn0 hn1 hz hg

theorem lev_bd {num den burst level at0 now : Int} (h : bright num den burst level at0 = true) (hn : at0 ≤ now) : 0 ≤ lev num den burst level at0 now ∧ lev num den burst level at0 now ≤ burst * den ∧ burst * den ≤ 1099511627776 ∧ (1 ≤ den ∧ den ≤ 1048576) := by
  obtain ⟨⟨a0, a1⟩, ⟨a2, a3⟩, a4, a5⟩ := rng_iff.1 (bright_rng h)
  have p0 : 0 ≤ burst * den := Int.mul_nonneg a4 (by omega)
  have p1 : burst * den ≤ 1048576 * 1048576 := Int.mul_le_mul a5 a3 (by omega) (by omega)
  have q0 : 0 ≤ num * (now - at0) := Int.mul_nonneg a0 (by omega)
  have hlv : 0 ≤ level := by
    simp only [bright, Bool.and_eq_true, decide_eq_true_eq] at h
    exact h.1.1.1.2
  refine ⟨?_, ?_, by omega, a2, a3⟩
  · unfold lev; split <;> omega
  · unfold lev; split <;> omega

set_option maxRecDepth 100000 in
set_option maxHeartbeats 4000000 in
theorem take_err (num den burst level at0 sat sb er : Int) (w : World) (he : (er == 0) = false)
    (HF : Hid (∀ W, Calls Tryz.prog 42 #[.agg #[.int .i64 num, .int .i64 den, .int .i64 burst, .int .i64 level, .int .i64 at0], .int .i64 sat] W fun e w' => e = .returned (.tuple #[.agg #[.int .i64 0, .int .i64 0, .int .i64 0, .int .i64 0, .int .i64 0], .int .i64 er]) ∧ Below W.heap.size W w')) :
    Calls Tryz.prog 61 #[.agg #[.int .i64 num, .int .i64 den, .int .i64 burst, .int .i64 level, .int .i64 at0], .agg #[.int .i64 sat, .int .i64 sb]] w fun e w' => e = .returned (.tuple #[.agg #[.int .i64 0, .int .i64 0, .int .i64 0, .int .i64 0, .int .i64 0], .bool false, .int .i64 er]) ∧ Below w.heap.size w w' := by
  have he' : (er != 0) = true := by rw [bne, he]; rfl
  go_enter Tryz.func61, Tryz.ntmps61
  go_wp2_with fail
  refine (HF.out _).mono ?_
  rintro e w1 ⟨rfl, hb⟩
  have c1_0 := fun o => Below.cell hb (p := ⟨w.heap.size, o, none⟩) (by first | omega | exact Below.size (by assumption) | (simp; done) | (simp; omega))
  have f1_0 := fun o => Below.frozen hb (p := ⟨w.heap.size, o, none⟩) (by first | omega | exact Below.size (by assumption) | (simp; done) | (simp; omega))
  have l1_0 : w.heap.size < w1.heap.size := Nat.lt_of_lt_of_le (by first | omega | exact Below.size (by assumption) | (simp; done) | (simp; omega)) (Below.size hb)
  have c1_1 := fun o => Below.cell hb (p := ⟨w.heap.size + 1, o, none⟩) (by first | omega | exact Below.size (by assumption) | (simp; done) | (simp; omega))
  have l1_1 : w.heap.size + 1 < w1.heap.size := Nat.lt_of_lt_of_le (by first | omega | exact Below.size (by assumption) | (simp; done) | (simp; omega)) (Below.size hb)
  have c1_2 := fun o => Below.cell hb (p := ⟨w.heap.size + 1 + 1, o, none⟩) (by first | omega | exact Below.size (by assumption) | (simp; done) | (simp; omega))
  have f1_2 := fun o => Below.frozen hb (p := ⟨w.heap.size + 1 + 1, o, none⟩) (by first | omega | exact Below.size (by assumption) | (simp; done) | (simp; omega))
  have l1_2 : w.heap.size + 1 + 1 < w1.heap.size := Nat.lt_of_lt_of_le (by first | omega | exact Below.size (by assumption) | (simp; done) | (simp; omega)) (Below.size hb)
  go_wp2_with fail
  refine bodyPost_ret (v := .tuple #[.agg #[.int .i64 0, .int .i64 0, .int .i64 0, .int .i64 0, .int .i64 0], .bool false, .int .i64 er]) (by simp [results, Tryz.results61, go_sem, *]) rfl ?_
  exact ⟨rfl, (by repeat (first | (with_reducible exact Below.refl _ _) | (with_reducible assumption) | (with_reducible refine Below.drew ?_) | (with_reducible refine below_drewN ?_ _) | ((with_reducible refine Below.setCell ?_ ?_ _); rotate_left; (next => first | omega | exact Nat.le_refl _ | (refine Below.size (B := ?_) ?_; rotate_left; assumption) | (simp; done) | (simp; omega))) | ((with_reducible refine Below.alloc ?_ ?_ _); rotate_left; (next => first | omega | exact Nat.le_refl _ | (refine Below.size (B := ?_) ?_; rotate_left; assumption) | (simp; done) | (simp; omega))) | ((with_reducible refine Below.trans (b := ?_) ?_ (Below.mono (B := ?_) ?_ ?_)); rotate_left 3; (next => (with_reducible assumption)); (next => first | omega | exact Nat.le_refl _ | (refine Below.size (B := ?_) ?_; rotate_left; assumption) | (simp; done) | (simp; omega)))))⟩

set_option maxRecDepth 100000 in
set_option maxHeartbeats 4000000 in
theorem take_bytes (num den burst level at0 sat sb lv : Int) (w : World) (hs : sb < 0 ∨ (0 ≤ sb ∧ 1048576 < sb))
    (HF : Hid (∀ W, Calls Tryz.prog 42 #[.agg #[.int .i64 num, .int .i64 den, .int .i64 burst, .int .i64 level, .int .i64 at0], .int .i64 sat] W fun e w' => e = .returned (.tuple #[.agg #[.int .i64 num, .int .i64 den, .int .i64 burst, .int .i64 lv, .int .i64 sat], .int .i64 0]) ∧ Below W.heap.size W w')) :
    Calls Tryz.prog 61 #[.agg #[.int .i64 num, .int .i64 den, .int .i64 burst, .int .i64 level, .int .i64 at0], .agg #[.int .i64 sat, .int .i64 sb]] w fun e w' => e = .returned (.tuple #[.agg #[.int .i64 0, .int .i64 0, .int .i64 0, .int .i64 0, .int .i64 0], .bool false, .int .i64 2]) ∧ Below w.heap.size w w' := by
  rcases hs with h1 | ⟨h1, h2⟩
  all_goals
    go_enter Tryz.func61, Tryz.ntmps61
    go_wp2_with fail
    refine (HF.out _).mono ?_
    rintro e w1 ⟨rfl, hb⟩
    have c1_0 := fun o => Below.cell hb (p := ⟨w.heap.size, o, none⟩) (by first | omega | exact Below.size (by assumption) | (simp; done) | (simp; omega))
    have f1_0 := fun o => Below.frozen hb (p := ⟨w.heap.size, o, none⟩) (by first | omega | exact Below.size (by assumption) | (simp; done) | (simp; omega))
    have l1_0 : w.heap.size < w1.heap.size := Nat.lt_of_lt_of_le (by first | omega | exact Below.size (by assumption) | (simp; done) | (simp; omega)) (Below.size hb)
    have c1_1 := fun o => Below.cell hb (p := ⟨w.heap.size + 1, o, none⟩) (by first | omega | exact Below.size (by assumption) | (simp; done) | (simp; omega))
    have l1_1 : w.heap.size + 1 < w1.heap.size := Nat.lt_of_lt_of_le (by first | omega | exact Below.size (by assumption) | (simp; done) | (simp; omega)) (Below.size hb)
    have c1_2 := fun o => Below.cell hb (p := ⟨w.heap.size + 1 + 1, o, none⟩) (by first | omega | exact Below.size (by assumption) | (simp; done) | (simp; omega))
    have f1_2 := fun o => Below.frozen hb (p := ⟨w.heap.size + 1 + 1, o, none⟩) (by first | omega | exact Below.size (by assumption) | (simp; done) | (simp; omega))
    have l1_2 : w.heap.size + 1 + 1 < w1.heap.size := Nat.lt_of_lt_of_le (by first | omega | exact Below.size (by assumption) | (simp; done) | (simp; omega)) (Below.size hb)
    go_wp2_with fail
    refine bodyPost_ret (v := .tuple #[.agg #[.int .i64 0, .int .i64 0, .int .i64 0, .int .i64 0, .int .i64 0], .bool false, .int .i64 2]) (by simp [results, Tryz.results61, go_sem, *]) rfl ?_
    exact ⟨rfl, (by repeat (first | (with_reducible exact Below.refl _ _) | (with_reducible assumption) | (with_reducible refine Below.drew ?_) | (with_reducible refine below_drewN ?_ _) | ((with_reducible refine Below.setCell ?_ ?_ _); rotate_left; (next => first | omega | exact Nat.le_refl _ | (refine Below.size (B := ?_) ?_; rotate_left; assumption) | (simp; done) | (simp; omega))) | ((with_reducible refine Below.alloc ?_ ?_ _); rotate_left; (next => first | omega | exact Nat.le_refl _ | (refine Below.size (B := ?_) ?_; rotate_left; assumption) | (simp; done) | (simp; omega))) | ((with_reducible refine Below.trans (b := ?_) ?_ (Below.mono (B := ?_) ?_ ?_)); rotate_left 3; (next => (with_reducible assumption)); (next => first | omega | exact Nat.le_refl _ | (refine Below.size (B := ?_) ?_; rotate_left; assumption) | (simp; done) | (simp; omega)))))⟩
end Go.Proofs.YtoibebmhfcjpfaaGreatDoor.Bucket

namespace Go.Proofs.YtoibebmhfcjpfaaGreatDoor.Bucket
open Go.RowKit Go.Proofs.YtoibebmhfcjpfaaGreatDoor.Big

theorem infoB : (Tryz.prog.info? 59).map (·.size) = some 5 := by kernel_rfl

set_option maxRecDepth 100000 in
set_option maxHeartbeats 1000000 in
theorem take_no (num den burst level at0 sat sb lv : Int) (w : World) (h0 : 0 ≤ sb) (h1 : sb ≤ 1048576) (p0 : 0 ≤ sb * den) (p1 : sb * den ≤ 1099511627776) (hc : lv < sb * den)
    (HF : Hid (∀ W, Calls Tryz.prog 42 #[.agg #[(.int .i64 num), (.int .i64 den), (.int .i64 burst), (.int .i64 level), (.int .i64 at0)], (.int .i64 sat)] W fun e w' => e = .returned (.tuple #[.agg #[(.int .i64 num), (.int .i64 den), (.int .i64 burst), (.int .i64 lv), (.int .i64 sat)], (.int .i64 0)]) ∧ Below W.heap.size W w')) :
    Calls Tryz.prog 61 #[.agg #[(.int .i64 num), (.int .i64 den), (.int .i64 burst), (.int .i64 level), (.int .i64 at0)], .agg #[(.int .i64 sat), (.int .i64 sb)]] w fun e w' => e = .returned (.tuple #[.agg #[(.int .i64 num), (.int .i64 den), (.int .i64 burst), (.int .i64 lv), (.int .i64 sat)], .bool false, (.int .i64 0)]) ∧ Below w.heap.size w w' := by
  go_enter Tryz.func61, Tryz.ntmps61
  go_wp2_with fail
  refine (HF.out _).mono ?_
  rintro e w1 ⟨rfl, hb⟩
  have c1_0 := fun o => Below.cell hb (p := ⟨w.heap.size, o, none⟩) (by first | omega | exact Below.size (by assumption) | (simp; done) | (simp; omega))
  have f1_0 := fun o => Below.frozen hb (p := ⟨w.heap.size, o, none⟩) (by first | omega | exact Below.size (by assumption) | (simp; done) | (simp; omega))
  have l1_0 : w.heap.size < w1.heap.size := Nat.lt_of_lt_of_le (by first | omega | exact Below.size (by assumption) | (simp; done) | (simp; omega)) (Below.size hb)
  have c1_1 := fun o => Below.cell hb (p := ⟨w.heap.size + 1, o, none⟩) (by first | omega | exact Below.size (by assumption) | (simp; done) | (simp; omega))
  have l1_1 : w.heap.size + 1 < w1.heap.size := Nat.lt_of_lt_of_le (by first | omega | exact Below.size (by assumption) | (simp; done) | (simp; omega)) (Below.size hb)
  have c1_2 := fun o => Below.cell hb (p := ⟨w.heap.size + 1 + 1, o, none⟩) (by first | omega | exact Below.size (by assumption) | (simp; done) | (simp; omega))
  have f1_2 := fun o => Below.frozen hb (p := ⟨w.heap.size + 1 + 1, o, none⟩) (by first | omega | exact Below.size (by assumption) | (simp; done) | (simp; omega))
  have l1_2 : w.heap.size + 1 + 1 < w1.heap.size := Nat.lt_of_lt_of_le (by first | omega | exact Below.size (by assumption) | (simp; done) | (simp; omega)) (Below.size hb)
  have hB1 : Below w.heap.size w w1 := (by repeat (first | (with_reducible exact Below.refl _ _) | (with_reducible assumption) | (with_reducible refine Below.drew ?_) | (with_reducible refine below_drewN ?_ _) | ((with_reducible refine Below.setCell ?_ ?_ _); rotate_left; (next => first | omega | exact Nat.le_refl _ | (refine Below.size (B := ?_) ?_; rotate_left; assumption) | (simp; done) | (simp; omega))) | ((with_reducible refine Below.alloc ?_ ?_ _); rotate_left; (next => first | omega | exact Nat.le_refl _ | (refine Below.size (B := ?_) ?_; rotate_left; assumption) | (simp; done) | (simp; omega))) | ((with_reducible refine Below.trans (b := ?_) ?_ (Below.mono (B := ?_) ?_ ?_)); rotate_left 3; (next => (with_reducible assumption)); (next => first | omega | exact Nat.le_refl _ | (refine Below.size (B := ?_) ?_; rotate_left; assumption) | (simp; done) | (simp; omega))) | exact Below.refl _ _ | assumption | refine Below.drew ?_ | refine below_drewN ?_ _ | refine Below.alloc ?_ (by first | omega | exact Below.size (by assumption) | (simp; done) | (simp; omega)) _ | refine Below.setCell ?_ (by first | omega | exact Below.size (by assumption) | (simp; done) | (simp; omega)) _ | refine Below.trans ?_ (Below.mono (by assumption) (by first | omega | exact Below.size (by assumption) | (simp; done) | (simp; omega)))))
  have hg : w1.heap[w.heap.size]? = some (.cells #[(.int .i64 num), (.int .i64 den), (.int .i64 burst), (.int .i64 level), (.int .i64 at0)] 59 (0, 0)) := (hb.block w.heap.size (by simp; omega)).trans (top2 _ _ _ _)
  go_upto_region 2 with ((with_reducible refine wpList_storeA (y := .tmp 13) ?_); refine ⟨_, _, _, _, rfl, rfl, hg, infoB, rfl, by simp [Value.oneCell'], ?_⟩; intro w2 d2 e2 g2 s2 u2)
  have c2_0 := fun o => Upd.other u2 (b' := w.heap.size + 1) (by first | omega | simp) (by first | omega | exact Below.size (by assumption) | (simp; done) | (simp; omega)) o
  have l2_0 : w.heap.size + 1 < w2.heap.size := Nat.lt_of_lt_of_le (by first | omega | exact Below.size (by assumption) | (simp; done) | (simp; omega)) (Upd.size u2)
  have c2_1 := fun o => Upd.other u2 (b' := w.heap.size + 1 + 1) (by first | omega | simp) (by first | omega | exact Below.size (by assumption) | (simp; done) | (simp; omega)) o
  have f2_1 := fun o => Upd.otherF u2 (b' := w.heap.size + 1 + 1) (by first | omega | simp) (by first | omega | exact Below.size (by assumption) | (simp; done) | (simp; omega)) o
  have l2_1 : w.heap.size + 1 + 1 < w2.heap.size := Nat.lt_of_lt_of_le (by first | omega | exact Below.size (by assumption) | (simp; done) | (simp; omega)) (Upd.size u2)
  have hB2 := hB1.trans (u2.below (Nat.le_refl _) hB1.size)
  clear u2 hg g2 hb
  go_wp2_with fail
  refine bodyPost_ret (v := .tuple #[.agg #[(.int .i64 num), (.int .i64 den), (.int .i64 burst), (.int .i64 lv), (.int .i64 sat)], .bool false, (.int .i64 0)]) (by simp [results, Tryz.results61, go_sem, *]) rfl ?_
  exact ⟨rfl, (by repeat (first | (with_reducible exact Below.refl _ _) | (with_reducible assumption) | (with_reducible refine Below.drew ?_) | (with_reducible refine below_drewN ?_ _) | ((with_reducible refine Below.setCell ?_ ?_ _); rotate_left; (next => first | omega | exact Nat.le_refl _ | (refine Below.size (B := ?_) ?_; rotate_left; assumption) | (simp; done) | (simp; omega))) | ((with_reducible refine Below.alloc ?_ ?_ _); rotate_left; (next => first | omega | exact Nat.le_refl _ | (refine Below.size (B := ?_) ?_; rotate_left; assumption) | (simp; done) | (simp; omega))) | ((with_reducible refine Below.trans (b := ?_) ?_ (Below.mono (B := ?_) ?_ ?_)); rotate_left 3; (next => (with_reducible assumption)); (next => first | omega | exact Nat.le_refl _ | (refine Below.size (B := ?_) ?_; rotate_left; assumption) | (simp; done) | (simp; omega)))))⟩

set_option maxRecDepth 100000 in
set_option maxHeartbeats 1000000 in
theorem take_yes (num den burst level at0 sat sb lv : Int) (w : World) (h0 : 0 ≤ sb) (h1 : sb ≤ 1048576) (p0 : 0 ≤ sb * den) (p1 : sb * den ≤ 1099511627776) (hc : sb * den ≤ lv) (hl : lv ≤ 1099511627776)
    (HF : Hid (∀ W, Calls Tryz.prog 42 #[.agg #[(.int .i64 num), (.int .i64 den), (.int .i64 burst), (.int .i64 level), (.int .i64 at0)], (.int .i64 sat)] W fun e w' => e = .returned (.tuple #[.agg #[(.int .i64 num), (.int .i64 den), (.int .i64 burst), (.int .i64 lv), (.int .i64 sat)], (.int .i64 0)]) ∧ Below W.heap.size W w')) :
    Calls Tryz.prog 61 #[.agg #[(.int .i64 num), (.int .i64 den), (.int .i64 burst), (.int .i64 level), (.int .i64 at0)], .agg #[(.int .i64 sat), (.int .i64 sb)]] w fun e w' => e = .returned (.tuple #[.agg #[(.int .i64 num), (.int .i64 den), (.int .i64 burst), (.int .i64 (lv - sb * den)), (.int .i64 sat)], .bool true, (.int .i64 0)]) ∧ Below w.heap.size w w' := by
  go_enter Tryz.func61, Tryz.ntmps61
  go_wp2_with fail
  refine (HF.out _).mono ?_
  rintro e w1 ⟨rfl, hb⟩
  have c1_0 := fun o => Below.cell hb (p := ⟨w.heap.size, o, none⟩) (by first | omega | exact Below.size (by assumption) | (simp; done) | (simp; omega))
  have f1_0 := fun o => Below.frozen hb (p := ⟨w.heap.size, o, none⟩) (by first | omega | exact Below.size (by assumption) | (simp; done) | (simp; omega))
  have l1_0 : w.heap.size < w1.heap.size := Nat.lt_of_lt_of_le (by first | omega | exact Below.size (by assumption) | (simp; done) | (simp; omega)) (Below.size hb)
  have c1_1 := fun o => Below.cell hb (p := ⟨w.heap.size + 1, o, none⟩) (by first | omega | exact Below.size (by assumption) | (simp; done) | (simp; omega))
  have l1_1 : w.heap.size + 1 < w1.heap.size := Nat.lt_of_lt_of_le (by first | omega | exact Below.size (by assumption) | (simp; done) | (simp; omega)) (Below.size hb)
  have c1_2 := fun o => Below.cell hb (p := ⟨w.heap.size + 1 + 1, o, none⟩) (by first | omega | exact Below.size (by assumption) | (simp; done) | (simp; omega))
  have f1_2 := fun o => Below.frozen hb (p := ⟨w.heap.size + 1 + 1, o, none⟩) (by first | omega | exact Below.size (by assumption) | (simp; done) | (simp; omega))
  have l1_2 : w.heap.size + 1 + 1 < w1.heap.size := Nat.lt_of_lt_of_le (by first | omega | exact Below.size (by assumption) | (simp; done) | (simp; omega)) (Below.size hb)
  have hB1 : Below w.heap.size w w1 := (by repeat (first | (with_reducible exact Below.refl _ _) | (with_reducible assumption) | (with_reducible refine Below.drew ?_) | (with_reducible refine below_drewN ?_ _) | ((with_reducible refine Below.setCell ?_ ?_ _); rotate_left; (next => first | omega | exact Nat.le_refl _ | (refine Below.size (B := ?_) ?_; rotate_left; assumption) | (simp; done) | (simp; omega))) | ((with_reducible refine Below.alloc ?_ ?_ _); rotate_left; (next => first | omega | exact Nat.le_refl _ | (refine Below.size (B := ?_) ?_; rotate_left; assumption) | (simp; done) | (simp; omega))) | ((with_reducible refine Below.trans (b := ?_) ?_ (Below.mono (B := ?_) ?_ ?_)); rotate_left 3; (next => (with_reducible assumption)); (next => first | omega | exact Nat.le_refl _ | (refine Below.size (B := ?_) ?_; rotate_left; assumption) | (simp; done) | (simp; omega))) | exact Below.refl _ _ | assumption | refine Below.drew ?_ | refine below_drewN ?_ _ | refine Below.alloc ?_ (by first | omega | exact Below.size (by assumption) | (simp; done) | (simp; omega)) _ | refine Below.setCell ?_ (by first | omega | exact Below.size (by assumption) | (simp; done) | (simp; omega)) _ | refine Below.trans ?_ (Below.mono (by assumption) (by first | omega | exact Below.size (by assumption) | (simp; done) | (simp; omega)))))
  have hg : w1.heap[w.heap.size]? = some (.cells #[(.int .i64 num), (.int .i64 den), (.int .i64 burst), (.int .i64 level), (.int .i64 at0)] 59 (0, 0)) := (hb.block w.heap.size (by simp; omega)).trans (top2 _ _ _ _)
  go_upto_region 2 with ((with_reducible refine wpList_storeA (y := .tmp 13) ?_); refine ⟨_, _, _, _, rfl, rfl, hg, infoB, rfl, by simp [Value.oneCell'], ?_⟩; intro w2 d2 e2 g2 s2 u2)
  have c2_0 := fun o => Upd.other u2 (b' := w.heap.size + 1) (by first | omega | simp) (by first | omega | exact Below.size (by assumption) | (simp; done) | (simp; omega)) o
  have l2_0 : w.heap.size + 1 < w2.heap.size := Nat.lt_of_lt_of_le (by first | omega | exact Below.size (by assumption) | (simp; done) | (simp; omega)) (Upd.size u2)
  have c2_1 := fun o => Upd.other u2 (b' := w.heap.size + 1 + 1) (by first | omega | simp) (by first | omega | exact Below.size (by assumption) | (simp; done) | (simp; omega)) o
  have f2_1 := fun o => Upd.otherF u2 (b' := w.heap.size + 1 + 1) (by first | omega | simp) (by first | omega | exact Below.size (by assumption) | (simp; done) | (simp; omega)) o
  have l2_1 : w.heap.size + 1 + 1 < w2.heap.size := Nat.lt_of_lt_of_le (by first | omega | exact Below.size (by assumption) | (simp; done) | (simp; omega)) (Upd.size u2)
  have hB2 := hB1.trans (u2.below (Nat.le_refl _) hB1.size)
  clear u2 hg g2 hb
  go_wp2_with fail
  refine bodyPost_ret (v := .tuple #[.agg #[(.int .i64 num), (.int .i64 den), (.int .i64 burst), (.int .i64 (lv - sb * den)), (.int .i64 sat)], .bool true, (.int .i64 0)]) (by simp [results, Tryz.results61, go_sem, *]) rfl ?_
  exact ⟨rfl, (by repeat (first | (with_reducible exact Below.refl _ _) | (with_reducible assumption) | (with_reducible refine Below.drew ?_) | (with_reducible refine below_drewN ?_ _) | ((with_reducible refine Below.setCell ?_ ?_ _); rotate_left; (next => first | omega | exact Nat.le_refl _ | (refine Below.size (B := ?_) ?_; rotate_left; assumption) | (simp; done) | (simp; omega))) | ((with_reducible refine Below.alloc ?_ ?_ _); rotate_left; (next => first | omega | exact Nat.le_refl _ | (refine Below.size (B := ?_) ?_; rotate_left; assumption) | (simp; done) | (simp; omega))) | ((with_reducible refine Below.trans (b := ?_) ?_ (Below.mono (B := ?_) ?_ ?_)); rotate_left 3; (next => (with_reducible assumption)); (next => first | omega | exact Nat.le_refl _ | (refine Below.size (B := ?_) ?_; rotate_left; assumption) | (simp; done) | (simp; omega)))))⟩
end Go.Proofs.YtoibebmhfcjpfaaGreatDoor.Bucket

namespace Go.Proofs.YtoibebmhfcjpfaaGreatDoor.Bucket
open Go.RowKit

structure Bkt where
  num : Int
  den : Int
  burst : Int
  level : Int
  at0 : Int
def Bkt.right (b : Bkt) : Bool := bright b.num b.den b.burst b.level b.at0
def Bkt.lev (b : Bkt) (now : Int) : Int := Bucket.lev b.num b.den b.burst b.level b.at0 now
def zeroB : Bkt := ⟨0, 0, 0, 0, 0⟩
/-- What Take answers. -/
def take (b : Bkt) (sat sb : Int) : Bkt × Bool × Int :=
  if b.right = false then (zeroB, false, 1)
  else if sat < b.at0 ∨ 1099511627776 < sat ∨ sb < 0 ∨ 1048576 < sb then (zeroB, false, 2)
  else if sb * b.den ≤ b.lev sat then (⟨b.num, b.den, b.burst, b.lev sat - sb * b.den, sat⟩, true, 0)
  else (⟨b.num, b.den, b.burst, b.lev sat, sat⟩, false, 0)
/-- The answer as a value. -/
def takeV (r : Bkt × Bool × Int) : Value := .tuple #[.agg #[(.int .i64 r.1.num), (.int .i64 r.1.den), (.int .i64 r.1.burst), (.int .i64 r.1.level), (.int .i64 r.1.at0)], .bool r.2.1, (.int .i64 r.2.2)]

theorem prod_bd {sb den : Int} (h0 : 0 ≤ sb) (h1 : sb ≤ 1048576) (a0 : 1 ≤ den) (a1 : den ≤ 1048576) : 0 ≤ sb * den ∧ sb * den ≤ 1099511627776 :=
  ⟨Int.mul_nonneg h0 (by omega), by have : sb * den ≤ 1048576 * 1048576 := Int.mul_le_mul h1 a1 (by omega) (by omega); omega⟩

theorem take_cases (num den burst level at0 sat sb : Int) :
    (bright num den burst level at0 = false ∧ takeV (take ⟨num, den, burst, level, at0⟩ sat sb) = .tuple #[.agg #[(.int .i64 0), (.int .i64 0), (.int .i64 0), (.int .i64 0), (.int .i64 0)], .bool false, (.int .i64 1)]) ∨
    (bright num den burst level at0 = true ∧ (sat < at0 ∨ 1099511627776 < sat) ∧ takeV (take ⟨num, den, burst, level, at0⟩ sat sb) = .tuple #[.agg #[(.int .i64 0), (.int .i64 0), (.int .i64 0), (.int .i64 0), (.int .i64 0)], .bool false, (.int .i64 2)]) ∨
    (bright num den burst level at0 = true ∧ at0 ≤ sat ∧ sat ≤ 1099511627776 ∧ (sb < 0 ∨ 1048576 < sb) ∧ takeV (take ⟨num, den, burst, level, at0⟩ sat sb) = .tuple #[.agg #[(.int .i64 0), (.int .i64 0), (.int .i64 0), (.int .i64 0), (.int .i64 0)], .bool false, (.int .i64 2)]) ∨
    (bright num den burst level at0 = true ∧ at0 ≤ sat ∧ sat ≤ 1099511627776 ∧ 0 ≤ sb ∧ sb ≤ 1048576 ∧ sb * den ≤ lev num den burst level at0 sat ∧ takeV (take ⟨num, den, burst, level, at0⟩ sat sb) = .tuple #[.agg #[(.int .i64 num), (.int .i64 den), (.int .i64 burst), (.int .i64 (lev num den burst level at0 sat - sb * den)), (.int .i64 sat)], .bool true, (.int .i64 0)]) ∨
    (bright num den burst level at0 = true ∧ at0 ≤ sat ∧ sat ≤ 1099511627776 ∧ 0 ≤ sb ∧ sb ≤ 1048576 ∧ lev num den burst level at0 sat < sb * den ∧ takeV (take ⟨num, den, burst, level, at0⟩ sat sb) = .tuple #[.agg #[(.int .i64 num), (.int .i64 den), (.int .i64 burst), (.int .i64 (lev num den burst level at0 sat)), (.int .i64 sat)], .bool false, (.int .i64 0)]) := by
  cases hr : bright num den burst level at0
  · left; exact ⟨rfl, by rw [take, if_pos (show Bkt.right ⟨num, den, burst, level, at0⟩ = false from hr)]; rfl⟩
  right
  have e : take ⟨num, den, burst, level, at0⟩ sat sb = if sat < at0 ∨ 1099511627776 < sat ∨ sb < 0 ∨ 1048576 < sb then (zeroB, false, 2)
    else if sb * den ≤ lev num den burst level at0 sat then (⟨num, den, burst, lev num den burst level at0 sat - sb * den, sat⟩, true, 0)
    else (⟨num, den, burst, lev num den burst level at0 sat, sat⟩, false, 0) := by rw [take, if_neg (show ¬ Bkt.right ⟨num, den, burst, level, at0⟩ = false from fun h => by rw [show Bkt.right ⟨num, den, burst, level, at0⟩ = true from hr] at h; cases h)]; rfl
  rw [e]
  by_cases h1 : sat < at0 ∨ 1099511627776 < sat
  · left; rw [if_pos (by omega)]; exact ⟨rfl, h1, rfl⟩
  right
  by_cases h2 : sb < 0 ∨ 1048576 < sb
  · left; rw [if_pos (by omega)]; exact ⟨rfl, by omega, by omega, h2, rfl⟩
  right
  rw [if_neg (by omega)]
  by_cases h3 : sb * den ≤ lev num den burst level at0 sat
  · left; rw [if_pos h3]; exact ⟨rfl, by omega, by omega, by omega, by omega, h3, rfl⟩
  · right; rw [if_neg h3]; exact ⟨rfl, by omega, by omega, by omega, by omega, by omega, rfl⟩

theorem take_any (num den burst level at0 sat sb : Int) (w : World) : Calls Tryz.prog 61 #[.agg #[(.int .i64 num), (.int .i64 den), (.int .i64 burst), (.int .i64 level), (.int .i64 at0)], .agg #[(.int .i64 sat), (.int .i64 sb)]] w fun e w' => e = .returned (takeV (take ⟨num, den, burst, level, at0⟩ sat sb)) ∧ Below w.heap.size w w' := by
  rcases take_cases num den burst level at0 sat sb with ⟨hr, h⟩ | ⟨hr, h1, h⟩ | ⟨hr, h1, h2, h3, h⟩ | ⟨hr, h1, h2, h3, h4, h5, h⟩ | ⟨hr, h1, h2, h3, h4, h5, h⟩ <;> rw [h]
  · exact take_err num den burst level at0 sat sb 1 w rfl (Lib.hid fun W => fill_bad num den burst level at0 sat W hr)
  · exact take_err num den burst level at0 sat sb 2 w rfl (Lib.hid fun W => fill_range num den burst level at0 sat W hr h1)
  · exact take_bytes num den burst level at0 sat sb _ w (by omega) (Lib.hid fun W => fill_ok num den burst level at0 sat W hr h1 h2)
  · obtain ⟨l0, l1, l2, d0, d1⟩ := lev_bd hr h1
    obtain ⟨p0, p1⟩ := prod_bd h3 h4 d0 d1
    exact take_yes num den burst level at0 sat sb _ w h3 h4 p0 p1 h5 (by omega) (Lib.hid fun W => fill_ok num den burst level at0 sat W hr h1 h2)
  · obtain ⟨l0, l1, l2, d0, d1⟩ := lev_bd hr h1
    obtain ⟨p0, p1⟩ := prod_bd h3 h4 d0 d1
    exact take_no num den burst level at0 sat sb _ w h3 h4 p0 p1 h5 (Lib.hid fun W => fill_ok num den burst level at0 sat W hr h1 h2)
end Go.Proofs.YtoibebmhfcjpfaaGreatDoor.Bucket
