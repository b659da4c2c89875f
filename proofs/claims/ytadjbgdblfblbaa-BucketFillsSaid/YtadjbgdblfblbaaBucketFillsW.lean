/- The walk of the law BucketFills. -/
import Derived.Test.YtadjbgdblfblbaaBucketH
namespace Go.Proofs.Ytadjbgdblfblbaa.BucketFills
open Go.RowKit Go.Proofs.Ytadjbgdblfblbaa.Bucket

set_option maxRecDepth 100000 in
set_option maxHeartbeats 2000000 in
theorem walk_c1 (num den burst level at0 now n : Int) (w : World) (hR : rng num den burst = false) (hB : bright num den burst level at0 = false) :
    Calls Try.prog 10 #[.agg #[(.int .i64 num), (.int .i64 den), (.int .i64 burst), (.int .i64 level), (.int .i64 at0)], (.int .i64 now), (.int .i64 n)] w fun e w' => e = .returned (.bool true) ∧ Below w.heap.size w w' := by
  have HF : Hid (∀ W, Calls Try.prog 52 #[.agg #[(.int .i64 num), (.int .i64 den), (.int .i64 burst), (.int .i64 level), (.int .i64 at0)], (.int .i64 now)] W fun e w' => e = .returned (.tuple #[.agg #[(.int .i64 0), (.int .i64 0), (.int .i64 0), (.int .i64 0), (.int .i64 0)], (.int .i64 1)]) ∧ Below W.heap.size W w') := Lib.hid fun W => fill_bad num den burst level at0 now W hB
  have HR : Hid (∀ W, Calls Try.prog 53 #[.agg #[(.int .i64 num), (.int .i64 den), (.int .i64 burst), (.int .i64 level), (.int .i64 at0)], (.int .i64 n)] W fun e w' => e = .returned (.tuple #[(.int .i64 0), .bool false, (.int .i64 1)]) ∧ Below W.heap.size W w') := Lib.hid fun W => ready_bad num den burst level at0 n W hB
  have HU : Hid (∀ W, Calls Try.prog 54 #[(.int .i64 num), (.int .i64 den), (.int .i64 burst)] W fun e w' => e = .returned (.tuple #[.agg #[(.int .i64 0), (.int .i64 0), (.int .i64 0), (.int .i64 0), (.int .i64 0)], (.int .i64 2)]) ∧ Below W.heap.size W w') := Lib.hid fun W => full_bad num den burst W hR
  have HI0 : Hid (∀ W, Calls Try.prog 55 #[.agg #[(.int .i64 num), (.int .i64 den), (.int .i64 burst), (.int .i64 0), (.int .i64 0)]] W fun e w' => e = .returned (.bool false) ∧ Below W.heap.size W w') := Lib.hid fun W => by have := iright_any num den burst 0 0 W; rwa [bright0, hR] at this
  have HI : Hid (∀ W, Calls Try.prog 55 #[.agg #[(.int .i64 num), (.int .i64 den), (.int .i64 burst), (.int .i64 level), (.int .i64 at0)]] W fun e w' => e = .returned (.bool false) ∧ Below W.heap.size W w') := Lib.hid fun W => hB ▸ iright_any num den burst level at0 W
  have HP : Hid (∀ W, Calls Try.prog 56 #[.agg #[(.int .i64 num), (.int .i64 den), (.int .i64 burst), (.int .i64 level), (.int .i64 at0)]] W fun e w' => e = .returned (.bool false) ∧ Below W.heap.size W w') := Lib.hid fun W => hB ▸ right_any num den burst level at0 W
  have HIs : Hid (∀ (W0 : World) (i : Since W0), Calls Try.prog 55 #[.agg #[(.int .i64 num), (.int .i64 den), (.int .i64 burst), (.int .i64 level), (.int .i64 at0)]] i.val fun e w' => e = .returned (.bool false) ∧ Below i.val.heap.size i.val w') := Lib.hid fun W0 i => HI.out i.val
  have HPs : Hid (∀ (W0 : World) (i : Since W0), Calls Try.prog 56 #[.agg #[(.int .i64 num), (.int .i64 den), (.int .i64 burst), (.int .i64 level), (.int .i64 at0)]] i.val fun e w' => e = .returned (.bool false) ∧ Below i.val.heap.size i.val w') := Lib.hid fun W0 i => HP.out i.val
  clear hR hB
  skip
  all_goals
    go_enter Try.func10, Try.ntmps10
    go_wp2_with fail
    refine (HF.out _).mono ?_
    rintro e w1 ⟨rfl, hb1⟩
    have c1_0 := fun o => Below.cell hb1 (p := ⟨w.heap.size, o, none⟩) (by first | omega | exact Below.size (by assumption) | (simp; done) | (simp; omega))
    have l1_0 : w.heap.size < w1.heap.size := Nat.lt_of_lt_of_le (by first | omega | exact Below.size (by assumption) | (simp; done) | (simp; omega)) (Below.size hb1)
    have hB1 : Below w.heap.size w w1 := (by repeat (first | (with_reducible exact Below.refl _ _) | (with_reducible assumption) | (with_reducible refine Below.drew ?_) | (with_reducible refine below_drewN ?_ _) | ((with_reducible refine Below.setCell ?_ ?_ _); rotate_left; (next => first | omega | exact Nat.le_refl _ | (refine Below.size (B := ?_) ?_; rotate_left; assumption) | (simp; done) | (simp; omega))) | ((with_reducible refine Below.alloc ?_ ?_ _); rotate_left; (next => first | omega | exact Nat.le_refl _ | (refine Below.size (B := ?_) ?_; rotate_left; assumption) | (simp; done) | (simp; omega))) | ((with_reducible refine Below.trans (b := ?_) ?_ (Below.mono (B := ?_) ?_ ?_)); rotate_left 3; (next => (with_reducible assumption)); (next => first | omega | exact Nat.le_refl _ | (refine Below.size (B := ?_) ?_; rotate_left; assumption) | (simp; done) | (simp; omega)))))
    have k1 : w.heap.size < w1.heap.size := l1_0
    go_wp2_with fail
    refine (HR.out _).mono ?_
    rintro e w2 ⟨rfl, hb2⟩
    have c2_0 := fun o => Below.cell hb2 (p := ⟨w.heap.size, o, none⟩) (by first | omega | exact Below.size (by assumption) | (simp; done) | (simp; omega))
    have l2_0 : w.heap.size < w2.heap.size := Nat.lt_of_lt_of_le (by first | omega | exact Below.size (by assumption) | (simp; done) | (simp; omega)) (Below.size hb2)
    have c2_1 := fun o => Below.cell hb2 (p := ⟨w1.heap.size, o, none⟩) (by first | omega | exact Below.size (by assumption) | (simp; done) | (simp; omega))
    have l2_1 : w1.heap.size < w2.heap.size := Nat.lt_of_lt_of_le (by first | omega | exact Below.size (by assumption) | (simp; done) | (simp; omega)) (Below.size hb2)
    have k2 : w1.heap.size < w2.heap.size := l2_1
    have hB2 : Below w.heap.size w w2 := (hB1.alloc hB1.size _).trans (hb2.mono (by simp; omega))
    go_wp2_with fail
    refine (HU.out _).mono ?_
    rintro e w3 ⟨rfl, hb3⟩
    have c3_0 := fun o => Below.cell hb3 (p := ⟨w.heap.size, o, none⟩) (by first | omega | exact Below.size (by assumption) | (simp; done) | (simp; omega))
    have l3_0 : w.heap.size < w3.heap.size := Nat.lt_of_lt_of_le (by first | omega | exact Below.size (by assumption) | (simp; done) | (simp; omega)) (Below.size hb3)
    have c3_1 := fun o => Below.cell hb3 (p := ⟨w1.heap.size, o, none⟩) (by first | omega | exact Below.size (by assumption) | (simp; done) | (simp; omega))
    have l3_1 : w1.heap.size < w3.heap.size := Nat.lt_of_lt_of_le (by first | omega | exact Below.size (by assumption) | (simp; done) | (simp; omega)) (Below.size hb3)
    have k3 : w1.heap.size < w3.heap.size := l3_1
    have hB3 : Below w.heap.size w w3 := hB2.trans (hb3.mono (by omega))
    go_wp2_with fail
    refine (HI0.out _).mono ?_
    rintro e w4 ⟨rfl, hb4⟩
    have c4_0 := fun o => Below.cell hb4 (p := ⟨w.heap.size, o, none⟩) (by first | omega | exact Below.size (by assumption) | (simp; done) | (simp; omega))
    have l4_0 : w.heap.size < w4.heap.size := Nat.lt_of_lt_of_le (by first | omega | exact Below.size (by assumption) | (simp; done) | (simp; omega)) (Below.size hb4)
    have c4_1 := fun o => Below.cell hb4 (p := ⟨w1.heap.size, o, none⟩) (by first | omega | exact Below.size (by assumption) | (simp; done) | (simp; omega))
    have l4_1 : w1.heap.size < w4.heap.size := Nat.lt_of_lt_of_le (by first | omega | exact Below.size (by assumption) | (simp; done) | (simp; omega)) (Below.size hb4)
    have c4_2 := fun o => Below.cell hb4 (p := ⟨w3.heap.size, o, none⟩) (by first | omega | exact Below.size (by assumption) | (simp; done) | (simp; omega))
    have l4_2 : w3.heap.size < w4.heap.size := Nat.lt_of_lt_of_le (by first | omega | exact Below.size (by assumption) | (simp; done) | (simp; omega)) (Below.size hb4)
    have c4_3 := fun o => Below.cell hb4 (p := ⟨w3.heap.size + 1, o, none⟩) (by first | omega | exact Below.size (by assumption) | (simp; done) | (simp; omega))
    have f4_3 := fun o => Below.frozen hb4 (p := ⟨w3.heap.size + 1, o, none⟩) (by first | omega | exact Below.size (by assumption) | (simp; done) | (simp; omega))
    have l4_3 : w3.heap.size + 1 < w4.heap.size := Nat.lt_of_lt_of_le (by first | omega | exact Below.size (by assumption) | (simp; done) | (simp; omega)) (Below.size hb4)
    have hB4 : Below w.heap.size w w4 := ((hB3.alloc hB3.size _).alloc (by simp; omega) _).trans (hb4.mono (by simp; omega))
    have k4 : w3.heap.size + 1 < w4.heap.size := l4_3
    clear hb1 hb2 hb3 hb4
    go_wp2_with fail
    obtain ⟨W0, HW⟩ : ∃ W0, Hid (w4 = W0) := ⟨_, Lib.hid rfl⟩
    have d0 : ∀ o, W0.cell? ⟨w.heap.size, o, none⟩ = (#[(.int .i64 num), (.int .i64 den), (.int .i64 burst), (.int .i64 level), (.int .i64 at0)] : Array Value)[o]? := fun o => by
      rw [← HW.out, c4_0, World.cell?_alloc_lt _ _ _ (by simp; omega), World.cell?_alloc_lt _ _ _ (by simp only; omega), c3_0, c2_0]
      rw [World.cell?_alloc_lt _ _ _ (by simp only; omega), c1_0]
      simp [go_sem]
    have d1 : ∀ o, W0.cell? ⟨w1.heap.size, o, none⟩ = w4.cell? ⟨w1.heap.size, o, none⟩ := fun o => by rw [← HW.out]
    have d2 : W0.heap.size = w4.heap.size := by rw [← HW.out]
    have hB5 : Below w.heap.size w W0 := by rw [← HW.out]; exact hB4
    rw [HW.out]
    have s0 : ∀ (i : Since W0) o, i.val.cell? ⟨w.heap.size, o, none⟩ = (#[(.int .i64 num), (.int .i64 den), (.int .i64 burst), (.int .i64 level), (.int .i64 at0)] : Array Value)[o]? := fun i o => (since_cell i (by omega) o).trans (d0 o)
    try dsimp only [List.append]
    refine wp_region_since W0 (Below.refl _ _) (by kernel_rfl) (by kernel_rfl) ?_
    repeat (go_big_quiet_step (first | (go_at_call 55; exact Calls.since (HIs.out _ _)) | (go_at_call 56; exact Calls.since (HPs.out _ _))))
    refine wpQuiet_nil ?_
    rintro w5 ⟨i5, hi5⟩
    have hb5 : Below W0.heap.size W0 w5 := hi5 ▸ i5.property
    clear hi5 i5
    have e0 : ∀ o, w5.cell? ⟨w.heap.size, o, none⟩ = (#[(.int .i64 num), (.int .i64 den), (.int .i64 burst), (.int .i64 level), (.int .i64 at0)] : Array Value)[o]? := fun o => (hb5.cell (p := ⟨w.heap.size, o, none⟩) (by simp only; omega)).trans (d0 o)
    have e1 : ∀ o, w5.cell? ⟨w1.heap.size, o, none⟩ = w4.cell? ⟨w1.heap.size, o, none⟩ := fun o => (hb5.cell (p := ⟨w1.heap.size, o, none⟩) (by simp only; omega)).trans (d1 o)
    have k5 : w1.heap.size < w5.heap.size := by have := hb5.size; omega
    have hB6 : Below w.heap.size w w5 := hB5.trans (hb5.mono hB5.size)
    clear s0 d0 d1 d2 hb5 hB5
    go_wp2_with fail
    refine (HI.out _).mono ?_
    rintro e w6 ⟨rfl, hb6⟩
    have c6_0 := fun o => Below.cell hb6 (p := ⟨w.heap.size, o, none⟩) (by first | omega | exact Below.size (by assumption) | (simp; done) | (simp; omega))
    have l6_0 : w.heap.size < w6.heap.size := Nat.lt_of_lt_of_le (by first | omega | exact Below.size (by assumption) | (simp; done) | (simp; omega)) (Below.size hb6)
    have c6_1 := fun o => Below.cell hb6 (p := ⟨w1.heap.size, o, none⟩) (by first | omega | exact Below.size (by assumption) | (simp; done) | (simp; omega))
    have l6_1 : w1.heap.size < w6.heap.size := Nat.lt_of_lt_of_le (by first | omega | exact Below.size (by assumption) | (simp; done) | (simp; omega)) (Below.size hb6)
    have hB7 : Below w.heap.size w w6 := hB6.trans (hb6.mono hB6.size)
    have k6 : w1.heap.size < w6.heap.size := l6_1
    clear hb6
    go_wp2_with fail
    go_ret
    exact ⟨rfl, (by repeat (first | (with_reducible exact Below.refl _ _) | (with_reducible assumption) | (with_reducible refine Below.drew ?_) | (with_reducible refine below_drewN ?_ _) | ((with_reducible refine Below.setCell ?_ ?_ _); rotate_left; (next => first | omega | exact Nat.le_refl _ | (refine Below.size (B := ?_) ?_; rotate_left; assumption) | (simp; done) | (simp; omega))) | ((with_reducible refine Below.alloc ?_ ?_ _); rotate_left; (next => first | omega | exact Nat.le_refl _ | (refine Below.size (B := ?_) ?_; rotate_left; assumption) | (simp; done) | (simp; omega))) | ((with_reducible refine Below.trans (b := ?_) ?_ (Below.mono (B := ?_) ?_ ?_)); rotate_left 3; (next => (with_reducible assumption)); (next => first | omega | exact Nat.le_refl _ | (refine Below.size (B := ?_) ?_; rotate_left; assumption) | (simp; done) | (simp; omega)))))⟩

set_option maxRecDepth 100000 in
set_option maxHeartbeats 2000000 in
theorem walk_c2 (num den burst level at0 now n : Int) (w : World) (hR : rng num den burst = true) (hB : bright num den burst level at0 = false) :
    Calls Try.prog 10 #[.agg #[(.int .i64 num), (.int .i64 den), (.int .i64 burst), (.int .i64 level), (.int .i64 at0)], (.int .i64 now), (.int .i64 n)] w fun e w' => e = .returned (.bool true) ∧ Below w.heap.size w w' := by
  have HF : Hid (∀ W, Calls Try.prog 52 #[.agg #[(.int .i64 num), (.int .i64 den), (.int .i64 burst), (.int .i64 level), (.int .i64 at0)], (.int .i64 now)] W fun e w' => e = .returned (.tuple #[.agg #[(.int .i64 0), (.int .i64 0), (.int .i64 0), (.int .i64 0), (.int .i64 0)], (.int .i64 1)]) ∧ Below W.heap.size W w') := Lib.hid fun W => fill_bad num den burst level at0 now W hB
  have HR : Hid (∀ W, Calls Try.prog 53 #[.agg #[(.int .i64 num), (.int .i64 den), (.int .i64 burst), (.int .i64 level), (.int .i64 at0)], (.int .i64 n)] W fun e w' => e = .returned (.tuple #[(.int .i64 0), .bool false, (.int .i64 1)]) ∧ Below W.heap.size W w') := Lib.hid fun W => ready_bad num den burst level at0 n W hB
  have HU : Hid (∀ W, Calls Try.prog 54 #[(.int .i64 num), (.int .i64 den), (.int .i64 burst)] W fun e w' => e = .returned (.tuple #[.agg #[(.int .i64 num), (.int .i64 den), (.int .i64 burst), (.int .i64 (burst * den)), (.int .i64 0)], (.int .i64 0)]) ∧ Below W.heap.size W w') := Lib.hid fun W => full_ok num den burst W hR
  obtain ⟨⟨j0, j1⟩, ⟨j2, j3⟩, j4, j5⟩ := rng_iff.1 hR
  have p0 : 0 ≤ burst * den := Int.mul_nonneg j4 (by omega)
  have p1 : burst * den ≤ 1048576 * 1048576 := Int.mul_le_mul j5 j3 (by omega) (by omega)
  have HI0 : Hid (∀ W, Calls Try.prog 55 #[.agg #[(.int .i64 num), (.int .i64 den), (.int .i64 burst), (.int .i64 0), (.int .i64 0)]] W fun e w' => e = .returned (.bool true) ∧ Below W.heap.size W w') := Lib.hid fun W => by have := iright_any num den burst 0 0 W; rwa [bright0, hR] at this
  have HI : Hid (∀ W, Calls Try.prog 55 #[.agg #[(.int .i64 num), (.int .i64 den), (.int .i64 burst), (.int .i64 level), (.int .i64 at0)]] W fun e w' => e = .returned (.bool false) ∧ Below W.heap.size W w') := Lib.hid fun W => hB ▸ iright_any num den burst level at0 W
  have HP : Hid (∀ W, Calls Try.prog 56 #[.agg #[(.int .i64 num), (.int .i64 den), (.int .i64 burst), (.int .i64 level), (.int .i64 at0)]] W fun e w' => e = .returned (.bool false) ∧ Below W.heap.size W w') := Lib.hid fun W => hB ▸ right_any num den burst level at0 W
  have HIs : Hid (∀ (W0 : World) (i : Since W0), Calls Try.prog 55 #[.agg #[(.int .i64 num), (.int .i64 den), (.int .i64 burst), (.int .i64 level), (.int .i64 at0)]] i.val fun e w' => e = .returned (.bool false) ∧ Below i.val.heap.size i.val w') := Lib.hid fun W0 i => HI.out i.val
  have HPs : Hid (∀ (W0 : World) (i : Since W0), Calls Try.prog 56 #[.agg #[(.int .i64 num), (.int .i64 den), (.int .i64 burst), (.int .i64 level), (.int .i64 at0)]] i.val fun e w' => e = .returned (.bool false) ∧ Below i.val.heap.size i.val w') := Lib.hid fun W0 i => HP.out i.val
  clear hR hB
  skip
  all_goals
    go_enter Try.func10, Try.ntmps10
    go_wp2_with fail
    refine (HF.out _).mono ?_
    rintro e w1 ⟨rfl, hb1⟩
    have c1_0 := fun o => Below.cell hb1 (p := ⟨w.heap.size, o, none⟩) (by first | omega | exact Below.size (by assumption) | (simp; done) | (simp; omega))
    have l1_0 : w.heap.size < w1.heap.size := Nat.lt_of_lt_of_le (by first | omega | exact Below.size (by assumption) | (simp; done) | (simp; omega)) (Below.size hb1)
    have hB1 : Below w.heap.size w w1 := (by repeat (first | (with_reducible exact Below.refl _ _) | (with_reducible assumption) | (with_reducible refine Below.drew ?_) | (with_reducible refine below_drewN ?_ _) | ((with_reducible refine Below.setCell ?_ ?_ _); rotate_left; (next => first | omega | exact Nat.le_refl _ | (refine Below.size (B := ?_) ?_; rotate_left; assumption) | (simp; done) | (simp; omega))) | ((with_reducible refine Below.alloc ?_ ?_ _); rotate_left; (next => first | omega | exact Nat.le_refl _ | (refine Below.size (B := ?_) ?_; rotate_left; assumption) | (simp; done) | (simp; omega))) | ((with_reducible refine Below.trans (b := ?_) ?_ (Below.mono (B := ?_) ?_ ?_)); rotate_left 3; (next => (with_reducible assumption)); (next => first | omega | exact Nat.le_refl _ | (refine Below.size (B := ?_) ?_; rotate_left; assumption) | (simp; done) | (simp; omega)))))
    have k1 : w.heap.size < w1.heap.size := l1_0
    go_wp2_with fail
    refine (HR.out _).mono ?_
    rintro e w2 ⟨rfl, hb2⟩
    have c2_0 := fun o => Below.cell hb2 (p := ⟨w.heap.size, o, none⟩) (by first | omega | exact Below.size (by assumption) | (simp; done) | (simp; omega))
    have l2_0 : w.heap.size < w2.heap.size := Nat.lt_of_lt_of_le (by first | omega | exact Below.size (by assumption) | (simp; done) | (simp; omega)) (Below.size hb2)
    have c2_1 := fun o => Below.cell hb2 (p := ⟨w1.heap.size, o, none⟩) (by first | omega | exact Below.size (by assumption) | (simp; done) | (simp; omega))
    have l2_1 : w1.heap.size < w2.heap.size := Nat.lt_of_lt_of_le (by first | omega | exact Below.size (by assumption) | (simp; done) | (simp; omega)) (Below.size hb2)
    have k2 : w1.heap.size < w2.heap.size := l2_1
    have hB2 : Below w.heap.size w w2 := (hB1.alloc hB1.size _).trans (hb2.mono (by simp; omega))
    go_wp2_with fail
    refine (HU.out _).mono ?_
    rintro e w3 ⟨rfl, hb3⟩
    have c3_0 := fun o => Below.cell hb3 (p := ⟨w.heap.size, o, none⟩) (by first | omega | exact Below.size (by assumption) | (simp; done) | (simp; omega))
    have l3_0 : w.heap.size < w3.heap.size := Nat.lt_of_lt_of_le (by first | omega | exact Below.size (by assumption) | (simp; done) | (simp; omega)) (Below.size hb3)
    have c3_1 := fun o => Below.cell hb3 (p := ⟨w1.heap.size, o, none⟩) (by first | omega | exact Below.size (by assumption) | (simp; done) | (simp; omega))
    have l3_1 : w1.heap.size < w3.heap.size := Nat.lt_of_lt_of_le (by first | omega | exact Below.size (by assumption) | (simp; done) | (simp; omega)) (Below.size hb3)
    have k3 : w1.heap.size < w3.heap.size := l3_1
    have hB3 : Below w.heap.size w w3 := hB2.trans (hb3.mono (by omega))
    go_wp2_with fail
    refine (HI0.out _).mono ?_
    rintro e w4 ⟨rfl, hb4⟩
    have c4_0 := fun o => Below.cell hb4 (p := ⟨w.heap.size, o, none⟩) (by first | omega | exact Below.size (by assumption) | (simp; done) | (simp; omega))
    have l4_0 : w.heap.size < w4.heap.size := Nat.lt_of_lt_of_le (by first | omega | exact Below.size (by assumption) | (simp; done) | (simp; omega)) (Below.size hb4)
    have c4_1 := fun o => Below.cell hb4 (p := ⟨w1.heap.size, o, none⟩) (by first | omega | exact Below.size (by assumption) | (simp; done) | (simp; omega))
    have l4_1 : w1.heap.size < w4.heap.size := Nat.lt_of_lt_of_le (by first | omega | exact Below.size (by assumption) | (simp; done) | (simp; omega)) (Below.size hb4)
    have c4_2 := fun o => Below.cell hb4 (p := ⟨w3.heap.size, o, none⟩) (by first | omega | exact Below.size (by assumption) | (simp; done) | (simp; omega))
    have l4_2 : w3.heap.size < w4.heap.size := Nat.lt_of_lt_of_le (by first | omega | exact Below.size (by assumption) | (simp; done) | (simp; omega)) (Below.size hb4)
    have c4_3 := fun o => Below.cell hb4 (p := ⟨w3.heap.size + 1, o, none⟩) (by first | omega | exact Below.size (by assumption) | (simp; done) | (simp; omega))
    have f4_3 := fun o => Below.frozen hb4 (p := ⟨w3.heap.size + 1, o, none⟩) (by first | omega | exact Below.size (by assumption) | (simp; done) | (simp; omega))
    have l4_3 : w3.heap.size + 1 < w4.heap.size := Nat.lt_of_lt_of_le (by first | omega | exact Below.size (by assumption) | (simp; done) | (simp; omega)) (Below.size hb4)
    have hB4 : Below w.heap.size w w4 := ((hB3.alloc hB3.size _).alloc (by simp; omega) _).trans (hb4.mono (by simp; omega))
    have k4 : w3.heap.size + 1 < w4.heap.size := l4_3
    clear hb1 hb2 hb3 hb4
    go_wp2_with fail
    generalize hW : w4.setCell _ _ = W0
    have HW := Lib.hid hW
    clear hW
    have d0 : ∀ o, W0.cell? ⟨w.heap.size, o, none⟩ = (#[(.int .i64 num), (.int .i64 den), (.int .i64 burst), (.int .i64 level), (.int .i64 at0)] : Array Value)[o]? := fun o => by
      rw [← HW.out, World.cell?_setCell_other _ _ _ _ (by simp only [ne_eq, Addr.mk.injEq, not_and]; omega), c4_0, World.cell?_alloc_lt _ _ _ (by simp; omega), World.cell?_alloc_lt _ _ _ (by simp only; omega), c3_0, c2_0]
      rw [World.cell?_alloc_lt _ _ _ (by simp only; omega), c1_0]
      simp [go_sem]
    have d1 : ∀ o, W0.cell? ⟨w1.heap.size, o, none⟩ = w4.cell? ⟨w1.heap.size, o, none⟩ := fun o => by
      rw [← HW.out, World.cell?_setCell_other _ _ _ _ (by simp only [ne_eq, Addr.mk.injEq, not_and]; omega)]
    have d2 : W0.heap.size = w4.heap.size := by rw [← HW.out]; simp [World.setCell]
    have hB5 : Below w.heap.size w W0 := by rw [← HW.out]; exact hB4.setCell (by simp only; omega) _
    clear HW
    have s0 : ∀ (i : Since W0) o, i.val.cell? ⟨w.heap.size, o, none⟩ = (#[(.int .i64 num), (.int .i64 den), (.int .i64 burst), (.int .i64 level), (.int .i64 at0)] : Array Value)[o]? := fun i o => (since_cell i (by omega) o).trans (d0 o)
    try dsimp only [List.append]
    refine wp_region_since W0 (Below.refl _ _) (by kernel_rfl) (by kernel_rfl) ?_
    repeat (go_big_quiet_step (first | (go_at_call 55; exact Calls.since (HIs.out _ _)) | (go_at_call 56; exact Calls.since (HPs.out _ _))))
    refine wpQuiet_nil ?_
    rintro w5 ⟨i5, hi5⟩
    have hb5 : Below W0.heap.size W0 w5 := hi5 ▸ i5.property
    clear hi5 i5
    have e0 : ∀ o, w5.cell? ⟨w.heap.size, o, none⟩ = (#[(.int .i64 num), (.int .i64 den), (.int .i64 burst), (.int .i64 level), (.int .i64 at0)] : Array Value)[o]? := fun o => (hb5.cell (p := ⟨w.heap.size, o, none⟩) (by simp only; omega)).trans (d0 o)
    have e1 : ∀ o, w5.cell? ⟨w1.heap.size, o, none⟩ = w4.cell? ⟨w1.heap.size, o, none⟩ := fun o => (hb5.cell (p := ⟨w1.heap.size, o, none⟩) (by simp only; omega)).trans (d1 o)
    have k5 : w1.heap.size < w5.heap.size := by have := hb5.size; omega
    have hB6 : Below w.heap.size w w5 := hB5.trans (hb5.mono hB5.size)
    clear s0 d0 d1 d2 hb5 hB5
    go_wp2_with fail
    refine (HI.out _).mono ?_
    rintro e w6 ⟨rfl, hb6⟩
    have c6_0 := fun o => Below.cell hb6 (p := ⟨w.heap.size, o, none⟩) (by first | omega | exact Below.size (by assumption) | (simp; done) | (simp; omega))
    have l6_0 : w.heap.size < w6.heap.size := Nat.lt_of_lt_of_le (by first | omega | exact Below.size (by assumption) | (simp; done) | (simp; omega)) (Below.size hb6)
    have c6_1 := fun o => Below.cell hb6 (p := ⟨w1.heap.size, o, none⟩) (by first | omega | exact Below.size (by assumption) | (simp; done) | (simp; omega))
    have l6_1 : w1.heap.size < w6.heap.size := Nat.lt_of_lt_of_le (by first | omega | exact Below.size (by assumption) | (simp; done) | (simp; omega)) (Below.size hb6)
    have hB7 : Below w.heap.size w w6 := hB6.trans (hb6.mono hB6.size)
    have k6 : w1.heap.size < w6.heap.size := l6_1
    clear hb6
    go_wp2_with fail
    go_ret
    exact ⟨rfl, (by repeat (first | (with_reducible exact Below.refl _ _) | (with_reducible assumption) | (with_reducible refine Below.drew ?_) | (with_reducible refine below_drewN ?_ _) | ((with_reducible refine Below.setCell ?_ ?_ _); rotate_left; (next => first | omega | exact Nat.le_refl _ | (refine Below.size (B := ?_) ?_; rotate_left; assumption) | (simp; done) | (simp; omega))) | ((with_reducible refine Below.alloc ?_ ?_ _); rotate_left; (next => first | omega | exact Nat.le_refl _ | (refine Below.size (B := ?_) ?_; rotate_left; assumption) | (simp; done) | (simp; omega))) | ((with_reducible refine Below.trans (b := ?_) ?_ (Below.mono (B := ?_) ?_ ?_)); rotate_left 3; (next => (with_reducible assumption)); (next => first | omega | exact Nat.le_refl _ | (refine Below.size (B := ?_) ?_; rotate_left; assumption) | (simp; done) | (simp; omega)))))⟩

set_option maxRecDepth 100000 in
set_option maxHeartbeats 2000000 in
theorem walk_c3 (num den burst level at0 now n : Int) (w : World) (hR : rng num den burst = true) (hB : bright num den burst level at0 = true) (hat : now < at0 ∨ 1099511627776 < now) (hm : n < 0 ∨ 1048576 < n) :
    Calls Try.prog 10 #[.agg #[(.int .i64 num), (.int .i64 den), (.int .i64 burst), (.int .i64 level), (.int .i64 at0)], (.int .i64 now), (.int .i64 n)] w fun e w' => e = .returned (.bool true) ∧ Below w.heap.size w w' := by
  have HF : Hid (∀ W, Calls Try.prog 52 #[.agg #[(.int .i64 num), (.int .i64 den), (.int .i64 burst), (.int .i64 level), (.int .i64 at0)], (.int .i64 now)] W fun e w' => e = .returned (.tuple #[.agg #[(.int .i64 0), (.int .i64 0), (.int .i64 0), (.int .i64 0), (.int .i64 0)], (.int .i64 2)]) ∧ Below W.heap.size W w') := Lib.hid fun W => fill_range num den burst level at0 now W hB hat
  have HR : Hid (∀ W, Calls Try.prog 53 #[.agg #[(.int .i64 num), (.int .i64 den), (.int .i64 burst), (.int .i64 level), (.int .i64 at0)], (.int .i64 n)] W fun e w' => e = .returned (.tuple #[(.int .i64 0), .bool false, (.int .i64 2)]) ∧ Below W.heap.size W w') := Lib.hid fun W => ready_range num den burst level at0 n W hB (by omega)
  have HU : Hid (∀ W, Calls Try.prog 54 #[(.int .i64 num), (.int .i64 den), (.int .i64 burst)] W fun e w' => e = .returned (.tuple #[.agg #[(.int .i64 num), (.int .i64 den), (.int .i64 burst), (.int .i64 (burst * den)), (.int .i64 0)], (.int .i64 0)]) ∧ Below W.heap.size W w') := Lib.hid fun W => full_ok num den burst W hR
  obtain ⟨⟨j0, j1⟩, ⟨j2, j3⟩, j4, j5⟩ := rng_iff.1 hR
  have p0 : 0 ≤ burst * den := Int.mul_nonneg j4 (by omega)
  have p1 : burst * den ≤ 1048576 * 1048576 := Int.mul_le_mul j5 j3 (by omega) (by omega)
  have HI0 : Hid (∀ W, Calls Try.prog 55 #[.agg #[(.int .i64 num), (.int .i64 den), (.int .i64 burst), (.int .i64 0), (.int .i64 0)]] W fun e w' => e = .returned (.bool true) ∧ Below W.heap.size W w') := Lib.hid fun W => by have := iright_any num den burst 0 0 W; rwa [bright0, hR] at this
  have HI : Hid (∀ W, Calls Try.prog 55 #[.agg #[(.int .i64 num), (.int .i64 den), (.int .i64 burst), (.int .i64 level), (.int .i64 at0)]] W fun e w' => e = .returned (.bool true) ∧ Below W.heap.size W w') := Lib.hid fun W => hB ▸ iright_any num den burst level at0 W
  have HP : Hid (∀ W, Calls Try.prog 56 #[.agg #[(.int .i64 num), (.int .i64 den), (.int .i64 burst), (.int .i64 level), (.int .i64 at0)]] W fun e w' => e = .returned (.bool true) ∧ Below W.heap.size W w') := Lib.hid fun W => hB ▸ right_any num den burst level at0 W
  have HIs : Hid (∀ (W0 : World) (i : Since W0), Calls Try.prog 55 #[.agg #[(.int .i64 num), (.int .i64 den), (.int .i64 burst), (.int .i64 level), (.int .i64 at0)]] i.val fun e w' => e = .returned (.bool true) ∧ Below i.val.heap.size i.val w') := Lib.hid fun W0 i => HI.out i.val
  have HPs : Hid (∀ (W0 : World) (i : Since W0), Calls Try.prog 56 #[.agg #[(.int .i64 num), (.int .i64 den), (.int .i64 burst), (.int .i64 level), (.int .i64 at0)]] i.val fun e w' => e = .returned (.bool true) ∧ Below i.val.heap.size i.val w') := Lib.hid fun W0 i => HP.out i.val
  clear hR hB
  have hat2 : now < at0 ∨ at0 ≤ now ∧ 1099511627776 < now := by omega
  clear hat
  have hm2 : n < 0 ∨ 0 ≤ n ∧ 1048576 < n := by omega
  clear hm
  rcases hat2 with a1 | ⟨a1, a2⟩ <;> rcases hm2 with a3 | ⟨a3, a4⟩
  all_goals
    go_enter Try.func10, Try.ntmps10
    go_wp2_with fail
    refine (HF.out _).mono ?_
    rintro e w1 ⟨rfl, hb1⟩
    have c1_0 := fun o => Below.cell hb1 (p := ⟨w.heap.size, o, none⟩) (by first | omega | exact Below.size (by assumption) | (simp; done) | (simp; omega))
    have l1_0 : w.heap.size < w1.heap.size := Nat.lt_of_lt_of_le (by first | omega | exact Below.size (by assumption) | (simp; done) | (simp; omega)) (Below.size hb1)
    have hB1 : Below w.heap.size w w1 := (by repeat (first | (with_reducible exact Below.refl _ _) | (with_reducible assumption) | (with_reducible refine Below.drew ?_) | (with_reducible refine below_drewN ?_ _) | ((with_reducible refine Below.setCell ?_ ?_ _); rotate_left; (next => first | omega | exact Nat.le_refl _ | (refine Below.size (B := ?_) ?_; rotate_left; assumption) | (simp; done) | (simp; omega))) | ((with_reducible refine Below.alloc ?_ ?_ _); rotate_left; (next => first | omega | exact Nat.le_refl _ | (refine Below.size (B := ?_) ?_; rotate_left; assumption) | (simp; done) | (simp; omega))) | ((with_reducible refine Below.trans (b := ?_) ?_ (Below.mono (B := ?_) ?_ ?_)); rotate_left 3; (next => (with_reducible assumption)); (next => first | omega | exact Nat.le_refl _ | (refine Below.size (B := ?_) ?_; rotate_left; assumption) | (simp; done) | (simp; omega)))))
    have k1 : w.heap.size < w1.heap.size := l1_0
    go_wp2_with fail
    refine (HR.out _).mono ?_
    rintro e w2 ⟨rfl, hb2⟩
    have c2_0 := fun o => Below.cell hb2 (p := ⟨w.heap.size, o, none⟩) (by first | omega | exact Below.size (by assumption) | (simp; done) | (simp; omega))
    have l2_0 : w.heap.size < w2.heap.size := Nat.lt_of_lt_of_le (by first | omega | exact Below.size (by assumption) | (simp; done) | (simp; omega)) (Below.size hb2)
    have c2_1 := fun o => Below.cell hb2 (p := ⟨w1.heap.size, o, none⟩) (by first | omega | exact Below.size (by assumption) | (simp; done) | (simp; omega))
    have l2_1 : w1.heap.size < w2.heap.size := Nat.lt_of_lt_of_le (by first | omega | exact Below.size (by assumption) | (simp; done) | (simp; omega)) (Below.size hb2)
    have k2 : w1.heap.size < w2.heap.size := l2_1
    have hB2 : Below w.heap.size w w2 := (hB1.alloc hB1.size _).trans (hb2.mono (by simp; omega))
    go_wp2_with fail
    refine (HU.out _).mono ?_
    rintro e w3 ⟨rfl, hb3⟩
    have c3_0 := fun o => Below.cell hb3 (p := ⟨w.heap.size, o, none⟩) (by first | omega | exact Below.size (by assumption) | (simp; done) | (simp; omega))
    have l3_0 : w.heap.size < w3.heap.size := Nat.lt_of_lt_of_le (by first | omega | exact Below.size (by assumption) | (simp; done) | (simp; omega)) (Below.size hb3)
    have c3_1 := fun o => Below.cell hb3 (p := ⟨w1.heap.size, o, none⟩) (by first | omega | exact Below.size (by assumption) | (simp; done) | (simp; omega))
    have l3_1 : w1.heap.size < w3.heap.size := Nat.lt_of_lt_of_le (by first | omega | exact Below.size (by assumption) | (simp; done) | (simp; omega)) (Below.size hb3)
    have k3 : w1.heap.size < w3.heap.size := l3_1
    have hB3 : Below w.heap.size w w3 := hB2.trans (hb3.mono (by omega))
    go_wp2_with fail
    refine (HI0.out _).mono ?_
    rintro e w4 ⟨rfl, hb4⟩
    have c4_0 := fun o => Below.cell hb4 (p := ⟨w.heap.size, o, none⟩) (by first | omega | exact Below.size (by assumption) | (simp; done) | (simp; omega))
    have l4_0 : w.heap.size < w4.heap.size := Nat.lt_of_lt_of_le (by first | omega | exact Below.size (by assumption) | (simp; done) | (simp; omega)) (Below.size hb4)
    have c4_1 := fun o => Below.cell hb4 (p := ⟨w1.heap.size, o, none⟩) (by first | omega | exact Below.size (by assumption) | (simp; done) | (simp; omega))
    have l4_1 : w1.heap.size < w4.heap.size := Nat.lt_of_lt_of_le (by first | omega | exact Below.size (by assumption) | (simp; done) | (simp; omega)) (Below.size hb4)
    have c4_2 := fun o => Below.cell hb4 (p := ⟨w3.heap.size, o, none⟩) (by first | omega | exact Below.size (by assumption) | (simp; done) | (simp; omega))
    have l4_2 : w3.heap.size < w4.heap.size := Nat.lt_of_lt_of_le (by first | omega | exact Below.size (by assumption) | (simp; done) | (simp; omega)) (Below.size hb4)
    have c4_3 := fun o => Below.cell hb4 (p := ⟨w3.heap.size + 1, o, none⟩) (by first | omega | exact Below.size (by assumption) | (simp; done) | (simp; omega))
    have f4_3 := fun o => Below.frozen hb4 (p := ⟨w3.heap.size + 1, o, none⟩) (by first | omega | exact Below.size (by assumption) | (simp; done) | (simp; omega))
    have l4_3 : w3.heap.size + 1 < w4.heap.size := Nat.lt_of_lt_of_le (by first | omega | exact Below.size (by assumption) | (simp; done) | (simp; omega)) (Below.size hb4)
    have hB4 : Below w.heap.size w w4 := ((hB3.alloc hB3.size _).alloc (by simp; omega) _).trans (hb4.mono (by simp; omega))
    have k4 : w3.heap.size + 1 < w4.heap.size := l4_3
    clear hb1 hb2 hb3 hb4
    go_wp2_with fail
    generalize hW : w4.setCell _ _ = W0
    have HW := Lib.hid hW
    clear hW
    have d0 : ∀ o, W0.cell? ⟨w.heap.size, o, none⟩ = (#[(.int .i64 num), (.int .i64 den), (.int .i64 burst), (.int .i64 level), (.int .i64 at0)] : Array Value)[o]? := fun o => by
      rw [← HW.out, World.cell?_setCell_other _ _ _ _ (by simp only [ne_eq, Addr.mk.injEq, not_and]; omega), c4_0, World.cell?_alloc_lt _ _ _ (by simp; omega), World.cell?_alloc_lt _ _ _ (by simp only; omega), c3_0, c2_0]
      rw [World.cell?_alloc_lt _ _ _ (by simp only; omega), c1_0]
      simp [go_sem]
    have d1 : ∀ o, W0.cell? ⟨w1.heap.size, o, none⟩ = w4.cell? ⟨w1.heap.size, o, none⟩ := fun o => by
      rw [← HW.out, World.cell?_setCell_other _ _ _ _ (by simp only [ne_eq, Addr.mk.injEq, not_and]; omega)]
    have d2 : W0.heap.size = w4.heap.size := by rw [← HW.out]; simp [World.setCell]
    have hB5 : Below w.heap.size w W0 := by rw [← HW.out]; exact hB4.setCell (by simp only; omega) _
    clear HW
    have s0 : ∀ (i : Since W0) o, i.val.cell? ⟨w.heap.size, o, none⟩ = (#[(.int .i64 num), (.int .i64 den), (.int .i64 burst), (.int .i64 level), (.int .i64 at0)] : Array Value)[o]? := fun i o => (since_cell i (by omega) o).trans (d0 o)
    try dsimp only [List.append]
    refine wp_region_since W0 (Below.refl _ _) (by kernel_rfl) (by kernel_rfl) ?_
    repeat (go_big_quiet_step (first | (go_at_call 55; exact Calls.since (HIs.out _ _)) | (go_at_call 56; exact Calls.since (HPs.out _ _))))
    refine wpQuiet_nil ?_
    rintro w5 ⟨i5, hi5⟩
    have hb5 : Below W0.heap.size W0 w5 := hi5 ▸ i5.property
    clear hi5 i5
    have e0 : ∀ o, w5.cell? ⟨w.heap.size, o, none⟩ = (#[(.int .i64 num), (.int .i64 den), (.int .i64 burst), (.int .i64 level), (.int .i64 at0)] : Array Value)[o]? := fun o => (hb5.cell (p := ⟨w.heap.size, o, none⟩) (by simp only; omega)).trans (d0 o)
    have e1 : ∀ o, w5.cell? ⟨w1.heap.size, o, none⟩ = w4.cell? ⟨w1.heap.size, o, none⟩ := fun o => (hb5.cell (p := ⟨w1.heap.size, o, none⟩) (by simp only; omega)).trans (d1 o)
    have k5 : w1.heap.size < w5.heap.size := by have := hb5.size; omega
    have hB6 : Below w.heap.size w w5 := hB5.trans (hb5.mono hB5.size)
    clear s0 d0 d1 d2 hb5 hB5
    go_wp2_with fail
    refine (HI.out _).mono ?_
    rintro e w6 ⟨rfl, hb6⟩
    have c6_0 := fun o => Below.cell hb6 (p := ⟨w.heap.size, o, none⟩) (by first | omega | exact Below.size (by assumption) | (simp; done) | (simp; omega))
    have l6_0 : w.heap.size < w6.heap.size := Nat.lt_of_lt_of_le (by first | omega | exact Below.size (by assumption) | (simp; done) | (simp; omega)) (Below.size hb6)
    have c6_1 := fun o => Below.cell hb6 (p := ⟨w1.heap.size, o, none⟩) (by first | omega | exact Below.size (by assumption) | (simp; done) | (simp; omega))
    have l6_1 : w1.heap.size < w6.heap.size := Nat.lt_of_lt_of_le (by first | omega | exact Below.size (by assumption) | (simp; done) | (simp; omega)) (Below.size hb6)
    have hB7 : Below w.heap.size w w6 := hB6.trans (hb6.mono hB6.size)
    have k6 : w1.heap.size < w6.heap.size := l6_1
    clear hb6
    go_wp2_with fail
    go_ret
    exact ⟨rfl, (by repeat (first | (with_reducible exact Below.refl _ _) | (with_reducible assumption) | (with_reducible refine Below.drew ?_) | (with_reducible refine below_drewN ?_ _) | ((with_reducible refine Below.setCell ?_ ?_ _); rotate_left; (next => first | omega | exact Nat.le_refl _ | (refine Below.size (B := ?_) ?_; rotate_left; assumption) | (simp; done) | (simp; omega))) | ((with_reducible refine Below.alloc ?_ ?_ _); rotate_left; (next => first | omega | exact Nat.le_refl _ | (refine Below.size (B := ?_) ?_; rotate_left; assumption) | (simp; done) | (simp; omega))) | ((with_reducible refine Below.trans (b := ?_) ?_ (Below.mono (B := ?_) ?_ ?_)); rotate_left 3; (next => (with_reducible assumption)); (next => first | omega | exact Nat.le_refl _ | (refine Below.size (B := ?_) ?_; rotate_left; assumption) | (simp; done) | (simp; omega)))))⟩

set_option maxRecDepth 100000 in
set_option maxHeartbeats 2000000 in
theorem walk_c4 (num den burst level at0 now n : Int) (w : World) (hR : rng num den burst = true) (hB : bright num den burst level at0 = true) (hat : now < at0 ∨ 1099511627776 < now) (hm0 : 0 ≤ n) (hm1 : n ≤ 1048576) :
    Calls Try.prog 10 #[.agg #[(.int .i64 num), (.int .i64 den), (.int .i64 burst), (.int .i64 level), (.int .i64 at0)], (.int .i64 now), (.int .i64 n)] w fun e w' => e = .returned (.bool true) ∧ Below w.heap.size w w' := by
  have HF : Hid (∀ W, Calls Try.prog 52 #[.agg #[(.int .i64 num), (.int .i64 den), (.int .i64 burst), (.int .i64 level), (.int .i64 at0)], (.int .i64 now)] W fun e w' => e = .returned (.tuple #[.agg #[(.int .i64 0), (.int .i64 0), (.int .i64 0), (.int .i64 0), (.int .i64 0)], (.int .i64 2)]) ∧ Below W.heap.size W w') := Lib.hid fun W => fill_range num den burst level at0 now W hB hat
  have HR : Hid (∀ W, Calls Try.prog 53 #[.agg #[(.int .i64 num), (.int .i64 den), (.int .i64 burst), (.int .i64 level), (.int .i64 at0)], (.int .i64 n)] W fun e w' => e = .returned (.tuple #[(.int .i64 ((rdy num den burst level at0 n).1)), .bool (rdy num den burst level at0 n).2, (.int .i64 0)]) ∧ Below W.heap.size W w') := Lib.hid fun W => ready_ok num den burst level at0 n W hB hm0 hm1
  have HIR : Hid (∀ W, Calls Try.prog 58 #[.agg #[(.int .i64 num), (.int .i64 den), (.int .i64 burst), (.int .i64 level), (.int .i64 at0)], (.int .i64 n)] W fun e w' => e = .returned (.tuple #[(.int .i64 ((rdy num den burst level at0 n).1)), .bool (rdy num den burst level at0 n).2]) ∧ Below W.heap.size W w') := Lib.hid fun W => iready_any num den burst level at0 n W hB hm0 hm1
  have HU : Hid (∀ W, Calls Try.prog 54 #[(.int .i64 num), (.int .i64 den), (.int .i64 burst)] W fun e w' => e = .returned (.tuple #[.agg #[(.int .i64 num), (.int .i64 den), (.int .i64 burst), (.int .i64 (burst * den)), (.int .i64 0)], (.int .i64 0)]) ∧ Below W.heap.size W w') := Lib.hid fun W => full_ok num den burst W hR
  obtain ⟨⟨j0, j1⟩, ⟨j2, j3⟩, j4, j5⟩ := rng_iff.1 hR
  have p0 : 0 ≤ burst * den := Int.mul_nonneg j4 (by omega)
  have p1 : burst * den ≤ 1048576 * 1048576 := Int.mul_le_mul j5 j3 (by omega) (by omega)
  generalize (rdy num den burst level at0 n).1 = rt at HR HIR
  generalize (rdy num den burst level at0 n).2 = rk at HR HIR
  have HI0 : Hid (∀ W, Calls Try.prog 55 #[.agg #[(.int .i64 num), (.int .i64 den), (.int .i64 burst), (.int .i64 0), (.int .i64 0)]] W fun e w' => e = .returned (.bool true) ∧ Below W.heap.size W w') := Lib.hid fun W => by have := iright_any num den burst 0 0 W; rwa [bright0, hR] at this
  have HI : Hid (∀ W, Calls Try.prog 55 #[.agg #[(.int .i64 num), (.int .i64 den), (.int .i64 burst), (.int .i64 level), (.int .i64 at0)]] W fun e w' => e = .returned (.bool true) ∧ Below W.heap.size W w') := Lib.hid fun W => hB ▸ iright_any num den burst level at0 W
  have HP : Hid (∀ W, Calls Try.prog 56 #[.agg #[(.int .i64 num), (.int .i64 den), (.int .i64 burst), (.int .i64 level), (.int .i64 at0)]] W fun e w' => e = .returned (.bool true) ∧ Below W.heap.size W w') := Lib.hid fun W => hB ▸ right_any num den burst level at0 W
  have HIs : Hid (∀ (W0 : World) (i : Since W0), Calls Try.prog 55 #[.agg #[(.int .i64 num), (.int .i64 den), (.int .i64 burst), (.int .i64 level), (.int .i64 at0)]] i.val fun e w' => e = .returned (.bool true) ∧ Below i.val.heap.size i.val w') := Lib.hid fun W0 i => HI.out i.val
  have HPs : Hid (∀ (W0 : World) (i : Since W0), Calls Try.prog 56 #[.agg #[(.int .i64 num), (.int .i64 den), (.int .i64 burst), (.int .i64 level), (.int .i64 at0)]] i.val fun e w' => e = .returned (.bool true) ∧ Below i.val.heap.size i.val w') := Lib.hid fun W0 i => HP.out i.val
  clear hR hB
  have hat2 : now < at0 ∨ at0 ≤ now ∧ 1099511627776 < now := by omega
  clear hat
  rcases hat2 with a1 | ⟨a1, a2⟩
  all_goals
    go_enter Try.func10, Try.ntmps10
    go_wp2_with fail
    refine (HF.out _).mono ?_
    rintro e w1 ⟨rfl, hb1⟩
    have c1_0 := fun o => Below.cell hb1 (p := ⟨w.heap.size, o, none⟩) (by first | omega | exact Below.size (by assumption) | (simp; done) | (simp; omega))
    have l1_0 : w.heap.size < w1.heap.size := Nat.lt_of_lt_of_le (by first | omega | exact Below.size (by assumption) | (simp; done) | (simp; omega)) (Below.size hb1)
    have hB1 : Below w.heap.size w w1 := (by repeat (first | (with_reducible exact Below.refl _ _) | (with_reducible assumption) | (with_reducible refine Below.drew ?_) | (with_reducible refine below_drewN ?_ _) | ((with_reducible refine Below.setCell ?_ ?_ _); rotate_left; (next => first | omega | exact Nat.le_refl _ | (refine Below.size (B := ?_) ?_; rotate_left; assumption) | (simp; done) | (simp; omega))) | ((with_reducible refine Below.alloc ?_ ?_ _); rotate_left; (next => first | omega | exact Nat.le_refl _ | (refine Below.size (B := ?_) ?_; rotate_left; assumption) | (simp; done) | (simp; omega))) | ((with_reducible refine Below.trans (b := ?_) ?_ (Below.mono (B := ?_) ?_ ?_)); rotate_left 3; (next => (with_reducible assumption)); (next => first | omega | exact Nat.le_refl _ | (refine Below.size (B := ?_) ?_; rotate_left; assumption) | (simp; done) | (simp; omega)))))
    have k1 : w.heap.size < w1.heap.size := l1_0
    go_wp2_with fail
    refine (HR.out _).mono ?_
    rintro e w2 ⟨rfl, hb2⟩
    have c2_0 := fun o => Below.cell hb2 (p := ⟨w.heap.size, o, none⟩) (by first | omega | exact Below.size (by assumption) | (simp; done) | (simp; omega))
    have l2_0 : w.heap.size < w2.heap.size := Nat.lt_of_lt_of_le (by first | omega | exact Below.size (by assumption) | (simp; done) | (simp; omega)) (Below.size hb2)
    have c2_1 := fun o => Below.cell hb2 (p := ⟨w1.heap.size, o, none⟩) (by first | omega | exact Below.size (by assumption) | (simp; done) | (simp; omega))
    have l2_1 : w1.heap.size < w2.heap.size := Nat.lt_of_lt_of_le (by first | omega | exact Below.size (by assumption) | (simp; done) | (simp; omega)) (Below.size hb2)
    have k2 : w1.heap.size < w2.heap.size := l2_1
    have hB2 : Below w.heap.size w w2 := (hB1.alloc hB1.size _).trans (hb2.mono (by simp; omega))
    go_wp2_with fail
    refine (HU.out _).mono ?_
    rintro e w3 ⟨rfl, hb3⟩
    have c3_0 := fun o => Below.cell hb3 (p := ⟨w.heap.size, o, none⟩) (by first | omega | exact Below.size (by assumption) | (simp; done) | (simp; omega))
    have l3_0 : w.heap.size < w3.heap.size := Nat.lt_of_lt_of_le (by first | omega | exact Below.size (by assumption) | (simp; done) | (simp; omega)) (Below.size hb3)
    have c3_1 := fun o => Below.cell hb3 (p := ⟨w1.heap.size, o, none⟩) (by first | omega | exact Below.size (by assumption) | (simp; done) | (simp; omega))
    have l3_1 : w1.heap.size < w3.heap.size := Nat.lt_of_lt_of_le (by first | omega | exact Below.size (by assumption) | (simp; done) | (simp; omega)) (Below.size hb3)
    have k3 : w1.heap.size < w3.heap.size := l3_1
    have hB3 : Below w.heap.size w w3 := hB2.trans (hb3.mono (by omega))
    go_wp2_with fail
    refine (HI0.out _).mono ?_
    rintro e w4 ⟨rfl, hb4⟩
    have c4_0 := fun o => Below.cell hb4 (p := ⟨w.heap.size, o, none⟩) (by first | omega | exact Below.size (by assumption) | (simp; done) | (simp; omega))
    have l4_0 : w.heap.size < w4.heap.size := Nat.lt_of_lt_of_le (by first | omega | exact Below.size (by assumption) | (simp; done) | (simp; omega)) (Below.size hb4)
    have c4_1 := fun o => Below.cell hb4 (p := ⟨w1.heap.size, o, none⟩) (by first | omega | exact Below.size (by assumption) | (simp; done) | (simp; omega))
    have l4_1 : w1.heap.size < w4.heap.size := Nat.lt_of_lt_of_le (by first | omega | exact Below.size (by assumption) | (simp; done) | (simp; omega)) (Below.size hb4)
    have c4_2 := fun o => Below.cell hb4 (p := ⟨w3.heap.size, o, none⟩) (by first | omega | exact Below.size (by assumption) | (simp; done) | (simp; omega))
    have l4_2 : w3.heap.size < w4.heap.size := Nat.lt_of_lt_of_le (by first | omega | exact Below.size (by assumption) | (simp; done) | (simp; omega)) (Below.size hb4)
    have c4_3 := fun o => Below.cell hb4 (p := ⟨w3.heap.size + 1, o, none⟩) (by first | omega | exact Below.size (by assumption) | (simp; done) | (simp; omega))
    have f4_3 := fun o => Below.frozen hb4 (p := ⟨w3.heap.size + 1, o, none⟩) (by first | omega | exact Below.size (by assumption) | (simp; done) | (simp; omega))
    have l4_3 : w3.heap.size + 1 < w4.heap.size := Nat.lt_of_lt_of_le (by first | omega | exact Below.size (by assumption) | (simp; done) | (simp; omega)) (Below.size hb4)
    have hB4 : Below w.heap.size w w4 := ((hB3.alloc hB3.size _).alloc (by simp; omega) _).trans (hb4.mono (by simp; omega))
    have k4 : w3.heap.size + 1 < w4.heap.size := l4_3
    clear hb1 hb2 hb3 hb4
    go_wp2_with fail
    generalize hW : w4.setCell _ _ = W0
    have HW := Lib.hid hW
    clear hW
    have d0 : ∀ o, W0.cell? ⟨w.heap.size, o, none⟩ = (#[(.int .i64 num), (.int .i64 den), (.int .i64 burst), (.int .i64 level), (.int .i64 at0)] : Array Value)[o]? := fun o => by
      rw [← HW.out, World.cell?_setCell_other _ _ _ _ (by simp only [ne_eq, Addr.mk.injEq, not_and]; omega), c4_0, World.cell?_alloc_lt _ _ _ (by simp; omega), World.cell?_alloc_lt _ _ _ (by simp only; omega), c3_0, c2_0]
      rw [World.cell?_alloc_lt _ _ _ (by simp only; omega), c1_0]
      simp [go_sem]
    have d1 : ∀ o, W0.cell? ⟨w1.heap.size, o, none⟩ = w4.cell? ⟨w1.heap.size, o, none⟩ := fun o => by
      rw [← HW.out, World.cell?_setCell_other _ _ _ _ (by simp only [ne_eq, Addr.mk.injEq, not_and]; omega)]
    have d2 : W0.heap.size = w4.heap.size := by rw [← HW.out]; simp [World.setCell]
    have hB5 : Below w.heap.size w W0 := by rw [← HW.out]; exact hB4.setCell (by simp only; omega) _
    clear HW
    have s0 : ∀ (i : Since W0) o, i.val.cell? ⟨w.heap.size, o, none⟩ = (#[(.int .i64 num), (.int .i64 den), (.int .i64 burst), (.int .i64 level), (.int .i64 at0)] : Array Value)[o]? := fun i o => (since_cell i (by omega) o).trans (d0 o)
    try dsimp only [List.append]
    refine wp_region_since W0 (Below.refl _ _) (by kernel_rfl) (by kernel_rfl) ?_
    repeat (go_big_quiet_step (first | (go_at_call 55; exact Calls.since (HIs.out _ _)) | (go_at_call 56; exact Calls.since (HPs.out _ _))))
    refine wpQuiet_nil ?_
    rintro w5 ⟨i5, hi5⟩
    have hb5 : Below W0.heap.size W0 w5 := hi5 ▸ i5.property
    clear hi5 i5
    have e0 : ∀ o, w5.cell? ⟨w.heap.size, o, none⟩ = (#[(.int .i64 num), (.int .i64 den), (.int .i64 burst), (.int .i64 level), (.int .i64 at0)] : Array Value)[o]? := fun o => (hb5.cell (p := ⟨w.heap.size, o, none⟩) (by simp only; omega)).trans (d0 o)
    have e1 : ∀ o, w5.cell? ⟨w1.heap.size, o, none⟩ = w4.cell? ⟨w1.heap.size, o, none⟩ := fun o => (hb5.cell (p := ⟨w1.heap.size, o, none⟩) (by simp only; omega)).trans (d1 o)
    have k5 : w1.heap.size < w5.heap.size := by have := hb5.size; omega
    have hB6 : Below w.heap.size w w5 := hB5.trans (hb5.mono hB5.size)
    clear s0 d0 d1 d2 hb5 hB5
    go_wp2_with fail
    refine (HI.out _).mono ?_
    rintro e w6 ⟨rfl, hb6⟩
    have c6_0 := fun o => Below.cell hb6 (p := ⟨w.heap.size, o, none⟩) (by first | omega | exact Below.size (by assumption) | (simp; done) | (simp; omega))
    have l6_0 : w.heap.size < w6.heap.size := Nat.lt_of_lt_of_le (by first | omega | exact Below.size (by assumption) | (simp; done) | (simp; omega)) (Below.size hb6)
    have c6_1 := fun o => Below.cell hb6 (p := ⟨w1.heap.size, o, none⟩) (by first | omega | exact Below.size (by assumption) | (simp; done) | (simp; omega))
    have l6_1 : w1.heap.size < w6.heap.size := Nat.lt_of_lt_of_le (by first | omega | exact Below.size (by assumption) | (simp; done) | (simp; omega)) (Below.size hb6)
    have hB7 : Below w.heap.size w w6 := hB6.trans (hb6.mono hB6.size)
    have k6 : w1.heap.size < w6.heap.size := l6_1
    clear hb6
    go_wp2_with fail
    refine (HIR.out _).mono ?_
    rintro e w7 ⟨rfl, hb7⟩
    cases rk
    all_goals
      go_wp2_with fail
      go_ret
      exact ⟨rfl, (by repeat (first | (with_reducible exact Below.refl _ _) | (with_reducible assumption) | (with_reducible refine Below.drew ?_) | (with_reducible refine below_drewN ?_ _) | ((with_reducible refine Below.setCell ?_ ?_ _); rotate_left; (next => first | omega | exact Nat.le_refl _ | (refine Below.size (B := ?_) ?_; rotate_left; assumption) | (simp; done) | (simp; omega))) | ((with_reducible refine Below.alloc ?_ ?_ _); rotate_left; (next => first | omega | exact Nat.le_refl _ | (refine Below.size (B := ?_) ?_; rotate_left; assumption) | (simp; done) | (simp; omega))) | ((with_reducible refine Below.trans (b := ?_) ?_ (Below.mono (B := ?_) ?_ ?_)); rotate_left 3; (next => (with_reducible assumption)); (next => first | omega | exact Nat.le_refl _ | (refine Below.size (B := ?_) ?_; rotate_left; assumption) | (simp; done) | (simp; omega)))))⟩

set_option maxRecDepth 100000 in
set_option maxHeartbeats 2000000 in
theorem walk_c5 (num den burst level at0 now n : Int) (w : World) (hR : rng num den burst = true) (hB : bright num den burst level at0 = true) (hn0 : at0 ≤ now) (hn1 : now ≤ 1099511627776) (hm : n < 0 ∨ 1048576 < n) :
    Calls Try.prog 10 #[.agg #[(.int .i64 num), (.int .i64 den), (.int .i64 burst), (.int .i64 level), (.int .i64 at0)], (.int .i64 now), (.int .i64 n)] w fun e w' => e = .returned (.bool true) ∧ Below w.heap.size w w' := by
  have HF : Hid (∀ W, Calls Try.prog 52 #[.agg #[(.int .i64 num), (.int .i64 den), (.int .i64 burst), (.int .i64 level), (.int .i64 at0)], (.int .i64 now)] W fun e w' => e = .returned (.tuple #[.agg #[(.int .i64 num), (.int .i64 den), (.int .i64 burst), (.int .i64 (lev num den burst level at0 now)), (.int .i64 now)], (.int .i64 0)]) ∧ Below W.heap.size W w') := Lib.hid fun W => fill_ok num den burst level at0 now W hB hn0 hn1
  have HL : Hid (∀ W, Calls Try.prog 57 #[.agg #[(.int .i64 num), (.int .i64 den), (.int .i64 burst), (.int .i64 level), (.int .i64 at0)], (.int .i64 now)] W fun e w' => e = .returned ((.int .i64 (lev num den burst level at0 now))) ∧ Below W.heap.size W w') := Lib.hid fun W => by
    obtain ⟨⟨j0, j1⟩, ⟨j2, j3⟩, j4, j5⟩ := rng_iff.1 hR
    have p1 : burst * den ≤ 1048576 * 1048576 := Int.mul_le_mul j5 j3 (by omega) (by omega)
    have h := hB
    simp only [bright, Bool.and_eq_true, decide_eq_true_eq] at h
    exact ilevel_any num den burst level at0 now W j0 j1 (by omega) j3 j4 j5 h.1.1.1.2 (by omega) h.1.2 hn0 hn1
  have HR : Hid (∀ W, Calls Try.prog 53 #[.agg #[(.int .i64 num), (.int .i64 den), (.int .i64 burst), (.int .i64 level), (.int .i64 at0)], (.int .i64 n)] W fun e w' => e = .returned (.tuple #[(.int .i64 0), .bool false, (.int .i64 2)]) ∧ Below W.heap.size W w') := Lib.hid fun W => ready_range num den burst level at0 n W hB (by omega)
  have HU : Hid (∀ W, Calls Try.prog 54 #[(.int .i64 num), (.int .i64 den), (.int .i64 burst)] W fun e w' => e = .returned (.tuple #[.agg #[(.int .i64 num), (.int .i64 den), (.int .i64 burst), (.int .i64 (burst * den)), (.int .i64 0)], (.int .i64 0)]) ∧ Below W.heap.size W w') := Lib.hid fun W => full_ok num den burst W hR
  obtain ⟨⟨j0, j1⟩, ⟨j2, j3⟩, j4, j5⟩ := rng_iff.1 hR
  have p0 : 0 ≤ burst * den := Int.mul_nonneg j4 (by omega)
  have p1 : burst * den ≤ 1048576 * 1048576 := Int.mul_le_mul j5 j3 (by omega) (by omega)
  generalize lev num den burst level at0 now = lv at HF HL
  have HI0 : Hid (∀ W, Calls Try.prog 55 #[.agg #[(.int .i64 num), (.int .i64 den), (.int .i64 burst), (.int .i64 0), (.int .i64 0)]] W fun e w' => e = .returned (.bool true) ∧ Below W.heap.size W w') := Lib.hid fun W => by have := iright_any num den burst 0 0 W; rwa [bright0, hR] at this
  have HI : Hid (∀ W, Calls Try.prog 55 #[.agg #[(.int .i64 num), (.int .i64 den), (.int .i64 burst), (.int .i64 level), (.int .i64 at0)]] W fun e w' => e = .returned (.bool true) ∧ Below W.heap.size W w') := Lib.hid fun W => hB ▸ iright_any num den burst level at0 W
  have HP : Hid (∀ W, Calls Try.prog 56 #[.agg #[(.int .i64 num), (.int .i64 den), (.int .i64 burst), (.int .i64 level), (.int .i64 at0)]] W fun e w' => e = .returned (.bool true) ∧ Below W.heap.size W w') := Lib.hid fun W => hB ▸ right_any num den burst level at0 W
  have HIs : Hid (∀ (W0 : World) (i : Since W0), Calls Try.prog 55 #[.agg #[(.int .i64 num), (.int .i64 den), (.int .i64 burst), (.int .i64 level), (.int .i64 at0)]] i.val fun e w' => e = .returned (.bool true) ∧ Below i.val.heap.size i.val w') := Lib.hid fun W0 i => HI.out i.val
  have HPs : Hid (∀ (W0 : World) (i : Since W0), Calls Try.prog 56 #[.agg #[(.int .i64 num), (.int .i64 den), (.int .i64 burst), (.int .i64 level), (.int .i64 at0)]] i.val fun e w' => e = .returned (.bool true) ∧ Below i.val.heap.size i.val w') := Lib.hid fun W0 i => HP.out i.val
  clear hR hB
  have hm2 : n < 0 ∨ 0 ≤ n ∧ 1048576 < n := by omega
  clear hm
  rcases hm2 with a3 | ⟨a3, a4⟩
  all_goals
    go_enter Try.func10, Try.ntmps10
    go_wp2_with fail
    refine (HF.out _).mono ?_
    rintro e w1 ⟨rfl, hb1⟩
    have c1_0 := fun o => Below.cell hb1 (p := ⟨w.heap.size, o, none⟩) (by first | omega | exact Below.size (by assumption) | (simp; done) | (simp; omega))
    have l1_0 : w.heap.size < w1.heap.size := Nat.lt_of_lt_of_le (by first | omega | exact Below.size (by assumption) | (simp; done) | (simp; omega)) (Below.size hb1)
    have hB1 : Below w.heap.size w w1 := (by repeat (first | (with_reducible exact Below.refl _ _) | (with_reducible assumption) | (with_reducible refine Below.drew ?_) | (with_reducible refine below_drewN ?_ _) | ((with_reducible refine Below.setCell ?_ ?_ _); rotate_left; (next => first | omega | exact Nat.le_refl _ | (refine Below.size (B := ?_) ?_; rotate_left; assumption) | (simp; done) | (simp; omega))) | ((with_reducible refine Below.alloc ?_ ?_ _); rotate_left; (next => first | omega | exact Nat.le_refl _ | (refine Below.size (B := ?_) ?_; rotate_left; assumption) | (simp; done) | (simp; omega))) | ((with_reducible refine Below.trans (b := ?_) ?_ (Below.mono (B := ?_) ?_ ?_)); rotate_left 3; (next => (with_reducible assumption)); (next => first | omega | exact Nat.le_refl _ | (refine Below.size (B := ?_) ?_; rotate_left; assumption) | (simp; done) | (simp; omega)))))
    have k1 : w.heap.size < w1.heap.size := l1_0
    go_wp2_with fail
    refine (HR.out _).mono ?_
    rintro e w2 ⟨rfl, hb2⟩
    have c2_0 := fun o => Below.cell hb2 (p := ⟨w.heap.size, o, none⟩) (by first | omega | exact Below.size (by assumption) | (simp; done) | (simp; omega))
    have l2_0 : w.heap.size < w2.heap.size := Nat.lt_of_lt_of_le (by first | omega | exact Below.size (by assumption) | (simp; done) | (simp; omega)) (Below.size hb2)
    have c2_1 := fun o => Below.cell hb2 (p := ⟨w1.heap.size, o, none⟩) (by first | omega | exact Below.size (by assumption) | (simp; done) | (simp; omega))
    have l2_1 : w1.heap.size < w2.heap.size := Nat.lt_of_lt_of_le (by first | omega | exact Below.size (by assumption) | (simp; done) | (simp; omega)) (Below.size hb2)
    have k2 : w1.heap.size < w2.heap.size := l2_1
    have hB2 : Below w.heap.size w w2 := (hB1.alloc hB1.size _).trans (hb2.mono (by simp; omega))
    go_wp2_with fail
    refine (HU.out _).mono ?_
    rintro e w3 ⟨rfl, hb3⟩
    have c3_0 := fun o => Below.cell hb3 (p := ⟨w.heap.size, o, none⟩) (by first | omega | exact Below.size (by assumption) | (simp; done) | (simp; omega))
    have l3_0 : w.heap.size < w3.heap.size := Nat.lt_of_lt_of_le (by first | omega | exact Below.size (by assumption) | (simp; done) | (simp; omega)) (Below.size hb3)
    have c3_1 := fun o => Below.cell hb3 (p := ⟨w1.heap.size, o, none⟩) (by first | omega | exact Below.size (by assumption) | (simp; done) | (simp; omega))
    have l3_1 : w1.heap.size < w3.heap.size := Nat.lt_of_lt_of_le (by first | omega | exact Below.size (by assumption) | (simp; done) | (simp; omega)) (Below.size hb3)
    have k3 : w1.heap.size < w3.heap.size := l3_1
    have hB3 : Below w.heap.size w w3 := hB2.trans (hb3.mono (by omega))
    go_wp2_with fail
    refine (HI0.out _).mono ?_
    rintro e w4 ⟨rfl, hb4⟩
    have c4_0 := fun o => Below.cell hb4 (p := ⟨w.heap.size, o, none⟩) (by first | omega | exact Below.size (by assumption) | (simp; done) | (simp; omega))
    have l4_0 : w.heap.size < w4.heap.size := Nat.lt_of_lt_of_le (by first | omega | exact Below.size (by assumption) | (simp; done) | (simp; omega)) (Below.size hb4)
    have c4_1 := fun o => Below.cell hb4 (p := ⟨w1.heap.size, o, none⟩) (by first | omega | exact Below.size (by assumption) | (simp; done) | (simp; omega))
    have l4_1 : w1.heap.size < w4.heap.size := Nat.lt_of_lt_of_le (by first | omega | exact Below.size (by assumption) | (simp; done) | (simp; omega)) (Below.size hb4)
    have c4_2 := fun o => Below.cell hb4 (p := ⟨w3.heap.size, o, none⟩) (by first | omega | exact Below.size (by assumption) | (simp; done) | (simp; omega))
    have l4_2 : w3.heap.size < w4.heap.size := Nat.lt_of_lt_of_le (by first | omega | exact Below.size (by assumption) | (simp; done) | (simp; omega)) (Below.size hb4)
    have c4_3 := fun o => Below.cell hb4 (p := ⟨w3.heap.size + 1, o, none⟩) (by first | omega | exact Below.size (by assumption) | (simp; done) | (simp; omega))
    have f4_3 := fun o => Below.frozen hb4 (p := ⟨w3.heap.size + 1, o, none⟩) (by first | omega | exact Below.size (by assumption) | (simp; done) | (simp; omega))
    have l4_3 : w3.heap.size + 1 < w4.heap.size := Nat.lt_of_lt_of_le (by first | omega | exact Below.size (by assumption) | (simp; done) | (simp; omega)) (Below.size hb4)
    have hB4 : Below w.heap.size w w4 := ((hB3.alloc hB3.size _).alloc (by simp; omega) _).trans (hb4.mono (by simp; omega))
    have k4 : w3.heap.size + 1 < w4.heap.size := l4_3
    clear hb1 hb2 hb3 hb4
    go_wp2_with fail
    generalize hW : w4.setCell _ _ = W0
    have HW := Lib.hid hW
    clear hW
    have d0 : ∀ o, W0.cell? ⟨w.heap.size, o, none⟩ = (#[(.int .i64 num), (.int .i64 den), (.int .i64 burst), (.int .i64 level), (.int .i64 at0)] : Array Value)[o]? := fun o => by
      rw [← HW.out, World.cell?_setCell_other _ _ _ _ (by simp only [ne_eq, Addr.mk.injEq, not_and]; omega), c4_0, World.cell?_alloc_lt _ _ _ (by simp; omega), World.cell?_alloc_lt _ _ _ (by simp only; omega), c3_0, c2_0]
      rw [World.cell?_alloc_lt _ _ _ (by simp only; omega), c1_0]
      simp [go_sem]
    have d1 : ∀ o, W0.cell? ⟨w1.heap.size, o, none⟩ = w4.cell? ⟨w1.heap.size, o, none⟩ := fun o => by
      rw [← HW.out, World.cell?_setCell_other _ _ _ _ (by simp only [ne_eq, Addr.mk.injEq, not_and]; omega)]
    have d2 : W0.heap.size = w4.heap.size := by rw [← HW.out]; simp [World.setCell]
    have hB5 : Below w.heap.size w W0 := by rw [← HW.out]; exact hB4.setCell (by simp only; omega) _
    clear HW
    have s0 : ∀ (i : Since W0) o, i.val.cell? ⟨w.heap.size, o, none⟩ = (#[(.int .i64 num), (.int .i64 den), (.int .i64 burst), (.int .i64 level), (.int .i64 at0)] : Array Value)[o]? := fun i o => (since_cell i (by omega) o).trans (d0 o)
    try dsimp only [List.append]
    refine wp_region_since W0 (Below.refl _ _) (by kernel_rfl) (by kernel_rfl) ?_
    repeat (go_big_quiet_step (first | (go_at_call 55; exact Calls.since (HIs.out _ _)) | (go_at_call 56; exact Calls.since (HPs.out _ _))))
    refine wpQuiet_nil ?_
    rintro w5 ⟨i5, hi5⟩
    have hb5 : Below W0.heap.size W0 w5 := hi5 ▸ i5.property
    clear hi5 i5
    have e0 : ∀ o, w5.cell? ⟨w.heap.size, o, none⟩ = (#[(.int .i64 num), (.int .i64 den), (.int .i64 burst), (.int .i64 level), (.int .i64 at0)] : Array Value)[o]? := fun o => (hb5.cell (p := ⟨w.heap.size, o, none⟩) (by simp only; omega)).trans (d0 o)
    have e1 : ∀ o, w5.cell? ⟨w1.heap.size, o, none⟩ = w4.cell? ⟨w1.heap.size, o, none⟩ := fun o => (hb5.cell (p := ⟨w1.heap.size, o, none⟩) (by simp only; omega)).trans (d1 o)
    have k5 : w1.heap.size < w5.heap.size := by have := hb5.size; omega
    have hB6 : Below w.heap.size w w5 := hB5.trans (hb5.mono hB5.size)
    clear s0 d0 d1 d2 hb5 hB5
    go_wp2_with fail
    refine (HI.out _).mono ?_
    rintro e w6 ⟨rfl, hb6⟩
    have c6_0 := fun o => Below.cell hb6 (p := ⟨w.heap.size, o, none⟩) (by first | omega | exact Below.size (by assumption) | (simp; done) | (simp; omega))
    have l6_0 : w.heap.size < w6.heap.size := Nat.lt_of_lt_of_le (by first | omega | exact Below.size (by assumption) | (simp; done) | (simp; omega)) (Below.size hb6)
    have c6_1 := fun o => Below.cell hb6 (p := ⟨w1.heap.size, o, none⟩) (by first | omega | exact Below.size (by assumption) | (simp; done) | (simp; omega))
    have l6_1 : w1.heap.size < w6.heap.size := Nat.lt_of_lt_of_le (by first | omega | exact Below.size (by assumption) | (simp; done) | (simp; omega)) (Below.size hb6)
    have hB7 : Below w.heap.size w w6 := hB6.trans (hb6.mono hB6.size)
    have k6 : w1.heap.size < w6.heap.size := l6_1
    clear hb6
    go_wp2_with fail
    refine (HL.out _).mono ?_
    rintro e w7 ⟨rfl, hb7⟩
    have k7 : w1.heap.size < w6.heap.size + 1 := by omega
    have c7_0 := fun o => Below.cell hb7 (p := ⟨w.heap.size, o, none⟩) (by first | omega | exact Below.size (by assumption) | (simp; done) | (simp; omega))
    have l7_0 : w.heap.size < w7.heap.size := Nat.lt_of_lt_of_le (by first | omega | exact Below.size (by assumption) | (simp; done) | (simp; omega)) (Below.size hb7)
    have c7_1 := fun o => Below.cell hb7 (p := ⟨w1.heap.size, o, none⟩) (by first | omega | exact Below.size (by assumption) | (simp; done) | (simp; omega))
    have l7_1 : w1.heap.size < w7.heap.size := Nat.lt_of_lt_of_le (by first | omega | exact Below.size (by assumption) | (simp; done) | (simp; omega)) (Below.size hb7)
    have c7_2 := fun o => Below.cell hb7 (p := ⟨w6.heap.size, o, none⟩) (by first | omega | exact Below.size (by assumption) | (simp; done) | (simp; omega))
    have f7_2 := fun o => Below.frozen hb7 (p := ⟨w6.heap.size, o, none⟩) (by first | omega | exact Below.size (by assumption) | (simp; done) | (simp; omega))
    have l7_2 : w6.heap.size < w7.heap.size := Nat.lt_of_lt_of_le (by first | omega | exact Below.size (by assumption) | (simp; done) | (simp; omega)) (Below.size hb7)
    have hB8 : Below w.heap.size w w7 := (hB7.alloc hB7.size _).trans (hb7.mono (by simp; omega))
    have k8 : w6.heap.size < w7.heap.size := l7_2
    clear hb7
    go_wp2_with fail
    go_ret
    exact ⟨rfl, (by repeat (first | (with_reducible exact Below.refl _ _) | (with_reducible assumption) | (with_reducible refine Below.drew ?_) | (with_reducible refine below_drewN ?_ _) | ((with_reducible refine Below.setCell ?_ ?_ _); rotate_left; (next => first | omega | exact Nat.le_refl _ | (refine Below.size (B := ?_) ?_; rotate_left; assumption) | (simp; done) | (simp; omega))) | ((with_reducible refine Below.alloc ?_ ?_ _); rotate_left; (next => first | omega | exact Nat.le_refl _ | (refine Below.size (B := ?_) ?_; rotate_left; assumption) | (simp; done) | (simp; omega))) | ((with_reducible refine Below.trans (b := ?_) ?_ (Below.mono (B := ?_) ?_ ?_)); rotate_left 3; (next => (with_reducible assumption)); (next => first | omega | exact Nat.le_refl _ | (refine Below.size (B := ?_) ?_; rotate_left; assumption) | (simp; done) | (simp; omega)))))⟩

set_option maxRecDepth 100000 in
set_option maxHeartbeats 2000000 in
theorem walk_c6 (num den burst level at0 now n : Int) (w : World) (hR : rng num den burst = true) (hB : bright num den burst level at0 = true) (hn0 : at0 ≤ now) (hn1 : now ≤ 1099511627776) (hm0 : 0 ≤ n) (hm1 : n ≤ 1048576) :
    Calls Try.prog 10 #[.agg #[(.int .i64 num), (.int .i64 den), (.int .i64 burst), (.int .i64 level), (.int .i64 at0)], (.int .i64 now), (.int .i64 n)] w fun e w' => e = .returned (.bool true) ∧ Below w.heap.size w w' := by
  have HF : Hid (∀ W, Calls Try.prog 52 #[.agg #[(.int .i64 num), (.int .i64 den), (.int .i64 burst), (.int .i64 level), (.int .i64 at0)], (.int .i64 now)] W fun e w' => e = .returned (.tuple #[.agg #[(.int .i64 num), (.int .i64 den), (.int .i64 burst), (.int .i64 (lev num den burst level at0 now)), (.int .i64 now)], (.int .i64 0)]) ∧ Below W.heap.size W w') := Lib.hid fun W => fill_ok num den burst level at0 now W hB hn0 hn1
  have HL : Hid (∀ W, Calls Try.prog 57 #[.agg #[(.int .i64 num), (.int .i64 den), (.int .i64 burst), (.int .i64 level), (.int .i64 at0)], (.int .i64 now)] W fun e w' => e = .returned ((.int .i64 (lev num den burst level at0 now))) ∧ Below W.heap.size W w') := Lib.hid fun W => by
    obtain ⟨⟨j0, j1⟩, ⟨j2, j3⟩, j4, j5⟩ := rng_iff.1 hR
    have p1 : burst * den ≤ 1048576 * 1048576 := Int.mul_le_mul j5 j3 (by omega) (by omega)
    have h := hB
    simp only [bright, Bool.and_eq_true, decide_eq_true_eq] at h
    exact ilevel_any num den burst level at0 now W j0 j1 (by omega) j3 j4 j5 h.1.1.1.2 (by omega) h.1.2 hn0 hn1
  have HR : Hid (∀ W, Calls Try.prog 53 #[.agg #[(.int .i64 num), (.int .i64 den), (.int .i64 burst), (.int .i64 level), (.int .i64 at0)], (.int .i64 n)] W fun e w' => e = .returned (.tuple #[(.int .i64 ((rdy num den burst level at0 n).1)), .bool (rdy num den burst level at0 n).2, (.int .i64 0)]) ∧ Below W.heap.size W w') := Lib.hid fun W => ready_ok num den burst level at0 n W hB hm0 hm1
  have HIR : Hid (∀ W, Calls Try.prog 58 #[.agg #[(.int .i64 num), (.int .i64 den), (.int .i64 burst), (.int .i64 level), (.int .i64 at0)], (.int .i64 n)] W fun e w' => e = .returned (.tuple #[(.int .i64 ((rdy num den burst level at0 n).1)), .bool (rdy num den burst level at0 n).2]) ∧ Below W.heap.size W w') := Lib.hid fun W => iready_any num den burst level at0 n W hB hm0 hm1
  have HU : Hid (∀ W, Calls Try.prog 54 #[(.int .i64 num), (.int .i64 den), (.int .i64 burst)] W fun e w' => e = .returned (.tuple #[.agg #[(.int .i64 num), (.int .i64 den), (.int .i64 burst), (.int .i64 (burst * den)), (.int .i64 0)], (.int .i64 0)]) ∧ Below W.heap.size W w') := Lib.hid fun W => full_ok num den burst W hR
  obtain ⟨⟨j0, j1⟩, ⟨j2, j3⟩, j4, j5⟩ := rng_iff.1 hR
  have p0 : 0 ≤ burst * den := Int.mul_nonneg j4 (by omega)
  have p1 : burst * den ≤ 1048576 * 1048576 := Int.mul_le_mul j5 j3 (by omega) (by omega)
  generalize lev num den burst level at0 now = lv at HF HL
  generalize (rdy num den burst level at0 n).1 = rt at HR HIR
  generalize (rdy num den burst level at0 n).2 = rk at HR HIR
  have HI0 : Hid (∀ W, Calls Try.prog 55 #[.agg #[(.int .i64 num), (.int .i64 den), (.int .i64 burst), (.int .i64 0), (.int .i64 0)]] W fun e w' => e = .returned (.bool true) ∧ Below W.heap.size W w') := Lib.hid fun W => by have := iright_any num den burst 0 0 W; rwa [bright0, hR] at this
  have HI : Hid (∀ W, Calls Try.prog 55 #[.agg #[(.int .i64 num), (.int .i64 den), (.int .i64 burst), (.int .i64 level), (.int .i64 at0)]] W fun e w' => e = .returned (.bool true) ∧ Below W.heap.size W w') := Lib.hid fun W => hB ▸ iright_any num den burst level at0 W
  have HP : Hid (∀ W, Calls Try.prog 56 #[.agg #[(.int .i64 num), (.int .i64 den), (.int .i64 burst), (.int .i64 level), (.int .i64 at0)]] W fun e w' => e = .returned (.bool true) ∧ Below W.heap.size W w') := Lib.hid fun W => hB ▸ right_any num den burst level at0 W
  have HIs : Hid (∀ (W0 : World) (i : Since W0), Calls Try.prog 55 #[.agg #[(.int .i64 num), (.int .i64 den), (.int .i64 burst), (.int .i64 level), (.int .i64 at0)]] i.val fun e w' => e = .returned (.bool true) ∧ Below i.val.heap.size i.val w') := Lib.hid fun W0 i => HI.out i.val
  have HPs : Hid (∀ (W0 : World) (i : Since W0), Calls Try.prog 56 #[.agg #[(.int .i64 num), (.int .i64 den), (.int .i64 burst), (.int .i64 level), (.int .i64 at0)]] i.val fun e w' => e = .returned (.bool true) ∧ Below i.val.heap.size i.val w') := Lib.hid fun W0 i => HP.out i.val
  clear hR hB
  skip
  all_goals
    go_enter Try.func10, Try.ntmps10
    go_wp2_with fail
    refine (HF.out _).mono ?_
    rintro e w1 ⟨rfl, hb1⟩
    have c1_0 := fun o => Below.cell hb1 (p := ⟨w.heap.size, o, none⟩) (by first | omega | exact Below.size (by assumption) | (simp; done) | (simp; omega))
    have l1_0 : w.heap.size < w1.heap.size := Nat.lt_of_lt_of_le (by first | omega | exact Below.size (by assumption) | (simp; done) | (simp; omega)) (Below.size hb1)
    have hB1 : Below w.heap.size w w1 := (by repeat (first | (with_reducible exact Below.refl _ _) | (with_reducible assumption) | (with_reducible refine Below.drew ?_) | (with_reducible refine below_drewN ?_ _) | ((with_reducible refine Below.setCell ?_ ?_ _); rotate_left; (next => first | omega | exact Nat.le_refl _ | (refine Below.size (B := ?_) ?_; rotate_left; assumption) | (simp; done) | (simp; omega))) | ((with_reducible refine Below.alloc ?_ ?_ _); rotate_left; (next => first | omega | exact Nat.le_refl _ | (refine Below.size (B := ?_) ?_; rotate_left; assumption) | (simp; done) | (simp; omega))) | ((with_reducible refine Below.trans (b := ?_) ?_ (Below.mono (B := ?_) ?_ ?_)); rotate_left 3; (next => (with_reducible assumption)); (next => first | omega | exact Nat.le_refl _ | (refine Below.size (B := ?_) ?_; rotate_left; assumption) | (simp; done) | (simp; omega)))))
    have k1 : w.heap.size < w1.heap.size := l1_0
    go_wp2_with fail
    refine (HR.out _).mono ?_
    rintro e w2 ⟨rfl, hb2⟩
    have c2_0 := fun o => Below.cell hb2 (p := ⟨w.heap.size, o, none⟩) (by first | omega | exact Below.size (by assumption) | (simp; done) | (simp; omega))
    have l2_0 : w.heap.size < w2.heap.size := Nat.lt_of_lt_of_le (by first | omega | exact Below.size (by assumption) | (simp; done) | (simp; omega)) (Below.size hb2)
    have c2_1 := fun o => Below.cell hb2 (p := ⟨w1.heap.size, o, none⟩) (by first | omega | exact Below.size (by assumption) | (simp; done) | (simp; omega))
    have l2_1 : w1.heap.size < w2.heap.size := Nat.lt_of_lt_of_le (by first | omega | exact Below.size (by assumption) | (simp; done) | (simp; omega)) (Below.size hb2)
    have k2 : w1.heap.size < w2.heap.size := l2_1
    have hB2 : Below w.heap.size w w2 := (hB1.alloc hB1.size _).trans (hb2.mono (by simp; omega))
    go_wp2_with fail
    refine (HU.out _).mono ?_
    rintro e w3 ⟨rfl, hb3⟩
    have c3_0 := fun o => Below.cell hb3 (p := ⟨w.heap.size, o, none⟩) (by first | omega | exact Below.size (by assumption) | (simp; done) | (simp; omega))
    have l3_0 : w.heap.size < w3.heap.size := Nat.lt_of_lt_of_le (by first | omega | exact Below.size (by assumption) | (simp; done) | (simp; omega)) (Below.size hb3)
    have c3_1 := fun o => Below.cell hb3 (p := ⟨w1.heap.size, o, none⟩) (by first | omega | exact Below.size (by assumption) | (simp; done) | (simp; omega))
    have l3_1 : w1.heap.size < w3.heap.size := Nat.lt_of_lt_of_le (by first | omega | exact Below.size (by assumption) | (simp; done) | (simp; omega)) (Below.size hb3)
    have k3 : w1.heap.size < w3.heap.size := l3_1
    have hB3 : Below w.heap.size w w3 := hB2.trans (hb3.mono (by omega))
    go_wp2_with fail
    refine (HI0.out _).mono ?_
    rintro e w4 ⟨rfl, hb4⟩
    have c4_0 := fun o => Below.cell hb4 (p := ⟨w.heap.size, o, none⟩) (by first | omega | exact Below.size (by assumption) | (simp; done) | (simp; omega))
    have l4_0 : w.heap.size < w4.heap.size := Nat.lt_of_lt_of_le (by first | omega | exact Below.size (by assumption) | (simp; done) | (simp; omega)) (Below.size hb4)
    have c4_1 := fun o => Below.cell hb4 (p := ⟨w1.heap.size, o, none⟩) (by first | omega | exact Below.size (by assumption) | (simp; done) | (simp; omega))
    have l4_1 : w1.heap.size < w4.heap.size := Nat.lt_of_lt_of_le (by first | omega | exact Below.size (by assumption) | (simp; done) | (simp; omega)) (Below.size hb4)
    have c4_2 := fun o => Below.cell hb4 (p := ⟨w3.heap.size, o, none⟩) (by first | omega | exact Below.size (by assumption) | (simp; done) | (simp; omega))
    have l4_2 : w3.heap.size < w4.heap.size := Nat.lt_of_lt_of_le (by first | omega | exact Below.size (by assumption) | (simp; done) | (simp; omega)) (Below.size hb4)
    have c4_3 := fun o => Below.cell hb4 (p := ⟨w3.heap.size + 1, o, none⟩) (by first | omega | exact Below.size (by assumption) | (simp; done) | (simp; omega))
    have f4_3 := fun o => Below.frozen hb4 (p := ⟨w3.heap.size + 1, o, none⟩) (by first | omega | exact Below.size (by assumption) | (simp; done) | (simp; omega))
    have l4_3 : w3.heap.size + 1 < w4.heap.size := Nat.lt_of_lt_of_le (by first | omega | exact Below.size (by assumption) | (simp; done) | (simp; omega)) (Below.size hb4)
    have hB4 : Below w.heap.size w w4 := ((hB3.alloc hB3.size _).alloc (by simp; omega) _).trans (hb4.mono (by simp; omega))
    have k4 : w3.heap.size + 1 < w4.heap.size := l4_3
    clear hb1 hb2 hb3 hb4
    go_wp2_with fail
    generalize hW : w4.setCell _ _ = W0
    have HW := Lib.hid hW
    clear hW
    have d0 : ∀ o, W0.cell? ⟨w.heap.size, o, none⟩ = (#[(.int .i64 num), (.int .i64 den), (.int .i64 burst), (.int .i64 level), (.int .i64 at0)] : Array Value)[o]? := fun o => by
      rw [← HW.out, World.cell?_setCell_other _ _ _ _ (by simp only [ne_eq, Addr.mk.injEq, not_and]; omega), c4_0, World.cell?_alloc_lt _ _ _ (by simp; omega), World.cell?_alloc_lt _ _ _ (by simp only; omega), c3_0, c2_0]
      rw [World.cell?_alloc_lt _ _ _ (by simp only; omega), c1_0]
      simp [go_sem]
    have d1 : ∀ o, W0.cell? ⟨w1.heap.size, o, none⟩ = w4.cell? ⟨w1.heap.size, o, none⟩ := fun o => by
      rw [← HW.out, World.cell?_setCell_other _ _ _ _ (by simp only [ne_eq, Addr.mk.injEq, not_and]; omega)]
    have d2 : W0.heap.size = w4.heap.size := by rw [← HW.out]; simp [World.setCell]
    have hB5 : Below w.heap.size w W0 := by rw [← HW.out]; exact hB4.setCell (by simp only; omega) _
    clear HW
    have s0 : ∀ (i : Since W0) o, i.val.cell? ⟨w.heap.size, o, none⟩ = (#[(.int .i64 num), (.int .i64 den), (.int .i64 burst), (.int .i64 level), (.int .i64 at0)] : Array Value)[o]? := fun i o => (since_cell i (by omega) o).trans (d0 o)
    try dsimp only [List.append]
    refine wp_region_since W0 (Below.refl _ _) (by kernel_rfl) (by kernel_rfl) ?_
    repeat (go_big_quiet_step (first | (go_at_call 55; exact Calls.since (HIs.out _ _)) | (go_at_call 56; exact Calls.since (HPs.out _ _))))
    refine wpQuiet_nil ?_
    rintro w5 ⟨i5, hi5⟩
    have hb5 : Below W0.heap.size W0 w5 := hi5 ▸ i5.property
    clear hi5 i5
    have e0 : ∀ o, w5.cell? ⟨w.heap.size, o, none⟩ = (#[(.int .i64 num), (.int .i64 den), (.int .i64 burst), (.int .i64 level), (.int .i64 at0)] : Array Value)[o]? := fun o => (hb5.cell (p := ⟨w.heap.size, o, none⟩) (by simp only; omega)).trans (d0 o)
    have e1 : ∀ o, w5.cell? ⟨w1.heap.size, o, none⟩ = w4.cell? ⟨w1.heap.size, o, none⟩ := fun o => (hb5.cell (p := ⟨w1.heap.size, o, none⟩) (by simp only; omega)).trans (d1 o)
    have k5 : w1.heap.size < w5.heap.size := by have := hb5.size; omega
    have hB6 : Below w.heap.size w w5 := hB5.trans (hb5.mono hB5.size)
    clear s0 d0 d1 d2 hb5 hB5
    go_wp2_with fail
    refine (HI.out _).mono ?_
    rintro e w6 ⟨rfl, hb6⟩
    have c6_0 := fun o => Below.cell hb6 (p := ⟨w.heap.size, o, none⟩) (by first | omega | exact Below.size (by assumption) | (simp; done) | (simp; omega))
    have l6_0 : w.heap.size < w6.heap.size := Nat.lt_of_lt_of_le (by first | omega | exact Below.size (by assumption) | (simp; done) | (simp; omega)) (Below.size hb6)
    have c6_1 := fun o => Below.cell hb6 (p := ⟨w1.heap.size, o, none⟩) (by first | omega | exact Below.size (by assumption) | (simp; done) | (simp; omega))
    have l6_1 : w1.heap.size < w6.heap.size := Nat.lt_of_lt_of_le (by first | omega | exact Below.size (by assumption) | (simp; done) | (simp; omega)) (Below.size hb6)
    have hB7 : Below w.heap.size w w6 := hB6.trans (hb6.mono hB6.size)
    have k6 : w1.heap.size < w6.heap.size := l6_1
    clear hb6
    go_wp2_with fail
    refine (HL.out _).mono ?_
    rintro e w7 ⟨rfl, hb7⟩
    have k7 : w1.heap.size < w6.heap.size + 1 := by omega
    have c7_0 := fun o => Below.cell hb7 (p := ⟨w.heap.size, o, none⟩) (by first | omega | exact Below.size (by assumption) | (simp; done) | (simp; omega))
    have l7_0 : w.heap.size < w7.heap.size := Nat.lt_of_lt_of_le (by first | omega | exact Below.size (by assumption) | (simp; done) | (simp; omega)) (Below.size hb7)
    have c7_1 := fun o => Below.cell hb7 (p := ⟨w1.heap.size, o, none⟩) (by first | omega | exact Below.size (by assumption) | (simp; done) | (simp; omega))
    have l7_1 : w1.heap.size < w7.heap.size := Nat.lt_of_lt_of_le (by first | omega | exact Below.size (by assumption) | (simp; done) | (simp; omega)) (Below.size hb7)
    have c7_2 := fun o => Below.cell hb7 (p := ⟨w6.heap.size, o, none⟩) (by first | omega | exact Below.size (by assumption) | (simp; done) | (simp; omega))
    have f7_2 := fun o => Below.frozen hb7 (p := ⟨w6.heap.size, o, none⟩) (by first | omega | exact Below.size (by assumption) | (simp; done) | (simp; omega))
    have l7_2 : w6.heap.size < w7.heap.size := Nat.lt_of_lt_of_le (by first | omega | exact Below.size (by assumption) | (simp; done) | (simp; omega)) (Below.size hb7)
    have hB8 : Below w.heap.size w w7 := (hB7.alloc hB7.size _).trans (hb7.mono (by simp; omega))
    have k8 : w6.heap.size < w7.heap.size := l7_2
    clear hb7
    go_wp2_with fail
    refine (HIR.out _).mono ?_
    rintro e w8 ⟨rfl, hb8⟩
    cases rk
    all_goals
      go_wp2_with fail
      go_ret
      exact ⟨rfl, (by repeat (first | (with_reducible exact Below.refl _ _) | (with_reducible assumption) | (with_reducible refine Below.drew ?_) | (with_reducible refine below_drewN ?_ _) | ((with_reducible refine Below.setCell ?_ ?_ _); rotate_left; (next => first | omega | exact Nat.le_refl _ | (refine Below.size (B := ?_) ?_; rotate_left; assumption) | (simp; done) | (simp; omega))) | ((with_reducible refine Below.alloc ?_ ?_ _); rotate_left; (next => first | omega | exact Nat.le_refl _ | (refine Below.size (B := ?_) ?_; rotate_left; assumption) | (simp; done) | (simp; omega))) | ((with_reducible refine Below.trans (b := ?_) ?_ (Below.mono (B := ?_) ?_ ?_)); rotate_left 3; (next => (with_reducible assumption)); (next => first | omega | exact Nat.le_refl _ | (refine Below.size (B := ?_) ?_; rotate_left; assumption) | (simp; done) | (simp; omega)))))⟩

theorem walk (num den burst level at0 now n : Int) (w : World) :
    Calls Try.prog 10 #[.agg #[(.int .i64 num), (.int .i64 den), (.int .i64 burst), (.int .i64 level), (.int .i64 at0)], (.int .i64 now), (.int .i64 n)] w fun e w' => e = .returned (.bool true) ∧ Below w.heap.size w w' := by
  cases hR : rng num den burst
  · exact walk_c1 num den burst level at0 now n w hR (by simp [bright, hR])
  · cases hB : bright num den burst level at0
    · exact walk_c2 num den burst level at0 now n w hR hB
    · by_cases h1 : now < at0 ∨ 1099511627776 < now
      · by_cases h2 : n < 0 ∨ 1048576 < n
        · exact walk_c3 num den burst level at0 now n w hR hB h1 h2
        · exact walk_c4 num den burst level at0 now n w hR hB h1 (by omega) (by omega)
      · by_cases h2 : n < 0 ∨ 1048576 < n
        · exact walk_c5 num den burst level at0 now n w hR hB (by omega) (by omega) h2
        · exact walk_c6 num den burst level at0 now n w hR hB (by omega) (by omega) (by omega) (by omega)
end Go.Proofs.Ytadjbgdblfblbaa.BucketFills
