/- Walk: meter.Colour, where a packet is coloured. -/
import Derived.Test.YtdfjeoifeladfaaMeterC
import Derived.Deep.DeepCutAuto
import Derived.Outline
namespace Go.Proofs.Ytdfjeoifeladfaa.Meter
open Go.RowKit

set_option maxRecDepth 100000 in
set_option maxHeartbeats 4000000 in
theorem colour_ok (C B E F S T now b had : Int) (w : World) (h : mright C B E F S T = true) (g0 : 1 ≤ had) (g1 : had ≤ 3) (t0 : T ≤ now) (t1 : now ≤ 1099511627776) (b0 : 0 ≤ b) (b1 : b ≤ 1048576) :
    Calls Try.prog 15 #[.agg #[(.int .i64 C), (.int .i64 B), (.int .i64 E), (.int .i64 F), (.int .i64 S), (.int .i64 T)], .agg #[(.int .i64 now), (.int .i64 b)], (.int .i64 had)] w fun e w' => e = .returned (colV (col ⟨C, B, E, F, S, T⟩ now b had)) ∧ Below w.heap.size w w' := by
  have HR : Hid (∀ W, Below w.heap.size w W → Calls Try.prog 17 #[.agg #[(.int .i64 C), (.int .i64 B), (.int .i64 E), (.int .i64 F), (.int .i64 S), (.int .i64 T)]] W fun e w' => e = .returned (.bool true) ∧ Below W.heap.size W w') := Lib.hid fun W hW => h ▸ right_any C B E F S T W
  obtain ⟨⟨c0, c1⟩, ⟨d0, d1⟩, ⟨e0, e1⟩, ⟨f0, f1'⟩, ⟨s0, s1'⟩, u0, u1⟩ := mright_iff.1 h
  have p0 : 0 ≤ (now - T) * C := Int.mul_nonneg (by omega) c0
  have p1 : (now - T) * C ≤ 1099511627776 * 1048576 := Int.mul_le_mul (by omega) c1 c0 (by omega)
  have hG : C * (now - T) = (now - T) * C := Int.mul_comm _ _
  have hcs := col_cases C B E F S T now b had
  rw [hG] at hcs
  have hcome : (C = 0 ∧ (now - T) * C = 0) ∨ (1 ≤ C ∧ now - T ≤ (B - F + E - S) / C ∧ (now - T) * C ≤ B - F + E - S) ∨ (1 ≤ C ∧ (B - F + E - S) / C < now - T ∧ B - F + E - S < (now - T) * C) := by
    by_cases h1 : C = 0
    · left; exact ⟨h1, by rw [h1]; simp⟩
    right
    have hq : (B - F + E - S) / C < now - T ↔ B - F + E - S < (now - T) * C := Int.ediv_lt_iff_lt_mul (by omega)
    by_cases h2 : (B - F + E - S) / C < now - T
    · right; exact ⟨by omega, h2, hq.1 h2⟩
    · left; exact ⟨by omega, by omega, by have := mt hq.2 h2; omega⟩
  have Hd : 1 ≤ C → Hid (0 ≤ (B - F + E - S) / C ∧ (B - F + E - S) / C ≤ B - F + E - S) := fun h1 => Lib.hid ⟨Int.ediv_nonneg (by omega) (by omega), Int.ediv_le_self _ (by omega)⟩
  obtain ⟨c, hc⟩ : ∃ c, min ((now - T) * C) (B - F + E - S) = c := ⟨_, rfl⟩
  obtain ⟨f, hf⟩ : ∃ f, min c (B - F) = f := ⟨_, rfl⟩
  have hF1 : f1 B F ((now - T) * C) = F + f := by unfold f1; split <;> omega
  have hS1 : s1 B F E S ((now - T) * C) = S + (c - f) := by unfold s1; split <;> (try split) <;> omega
  rw [hF1, hS1] at hcs
  have hbd : 0 ≤ f ∧ f ≤ B - F ∧ 0 ≤ c - f ∧ c - f ≤ E - S ∧ 0 ≤ c := by omega
  obtain ⟨v0, v1, v2, v3, v4⟩ := hbd
  obtain ⟨tb, htb⟩ : ∃ tb : Bool, ((C = 0 ∧ tb = true) ∨ (1 ≤ C ∧ now - T ≤ (B - F + E - S) / C ∧ tb = true) ∨ (1 ≤ C ∧ (B - F + E - S) / C < now - T ∧ tb = false)) ∧ ((tb = true ∧ min ((now - T) * C) (B - F + E - S) = c) ∨ (tb = false ∧ B - F + E - S = c)) := by
    rcases hcome with ⟨h1, h2⟩ | ⟨h1, h2, h3⟩ | ⟨h1, h2, h3⟩
    · exact ⟨true, .inl ⟨h1, rfl⟩, .inl ⟨rfl, hc⟩⟩
    · exact ⟨true, .inr (.inl ⟨h1, h2, rfl⟩), .inl ⟨rfl, hc⟩⟩
    · exact ⟨false, .inr (.inr ⟨h1, h2, rfl⟩), .inr ⟨rfl, by omega⟩⟩
  have Hcome := Lib.hid htb.1
  have Hmin := Lib.hid htb.2
  generalize hV : colV (col ⟨C, B, E, F, S, T⟩ now b had) = V at hcs
  have Hcs : Hid ((had = 1 ∧ b ≤ F + f ∧ V = colV (⟨C, B, E, F + f - b, S + (c - f), now⟩, 1, 0)) ∨ (had = 1 ∧ F + f < b ∧ b ≤ S + (c - f) ∧ V = colV (⟨C, B, E, F + f, S + (c - f) - b, now⟩, 2, 0)) ∨ (had = 2 ∧ b ≤ S + (c - f) ∧ V = colV (⟨C, B, E, F + f, S + (c - f) - b, now⟩, 2, 0)) ∨
      (had = 1 ∧ F + f < b ∧ S + (c - f) < b ∧ V = colV (⟨C, B, E, F + f, S + (c - f), now⟩, 3, 0)) ∨ (had = 2 ∧ S + (c - f) < b ∧ V = colV (⟨C, B, E, F + f, S + (c - f), now⟩, 3, 0)) ∨ (had = 3 ∧ V = colV (⟨C, B, E, F + f, S + (c - f), now⟩, 3, 0))) := Lib.hid (by
    rcases hcs with ⟨k1, _⟩ | ⟨_, k1, _⟩ | ⟨_, _, _, k1, _⟩ | ⟨_, _, _, _, k1⟩
    · rw [h] at k1; cases k1
    · omega
    · omega
    rcases k1 with ⟨k1, k2, k3⟩ | ⟨k1 | k1, k2, k3⟩ | ⟨k1 | k1 | k1, k3⟩
    · exact .inl ⟨k1, k2, k3⟩
    · exact .inr (.inl ⟨k1.1, k1.2, k2, k3⟩)
    · exact .inr (.inr (.inl ⟨k1, k2, k3⟩))
    · exact .inr (.inr (.inr (.inl ⟨k1.1, k1.2.1, k1.2.2, k3⟩)))
    · exact .inr (.inr (.inr (.inr (.inl ⟨k1.1, k1.2, k3⟩))))
    · exact .inr (.inr (.inr (.inr (.inr ⟨k1, k3⟩)))))
  clear hV hcs hcome htb hG hF1 hS1 h hc
  go_enter Try.func15, Try.ntmps15
  go_wp2_with fail
  refine (HR.out _ (by repeat (first | (with_reducible exact Below.refl _ _) | (with_reducible assumption) | (with_reducible refine Below.drew ?_) | (with_reducible refine below_drewN ?_ _) | ((with_reducible refine Below.setCell ?_ ?_ _); rotate_left; (next => first | omega | exact Nat.le_refl _ | (refine Below.size (B := ?_) ?_; rotate_left; assumption) | (simp; done) | (simp; omega))) | ((with_reducible refine Below.alloc ?_ ?_ _); rotate_left; (next => first | omega | exact Nat.le_refl _ | (refine Below.size (B := ?_) ?_; rotate_left; assumption) | (simp; done) | (simp; omega))) | ((with_reducible refine Below.trans (b := ?_) ?_ (Below.mono (B := ?_) ?_ ?_)); rotate_left 3; (next => (with_reducible assumption)); (next => first | omega | exact Nat.le_refl _ | (refine Below.size (B := ?_) ?_; rotate_left; assumption) | (simp; done) | (simp; omega))) | exact Below.refl _ _ | assumption | refine Below.drew ?_ | refine below_drewN ?_ _ | refine Below.alloc ?_ (by first | omega | exact Below.size (by assumption) | (simp; done) | (simp; omega)) _ | refine Below.setCell ?_ (by first | omega | exact Below.size (by assumption) | (simp; done) | (simp; omega)) _ | refine Below.trans ?_ (Below.mono (by assumption) (by first | omega | exact Below.size (by assumption) | (simp; done) | (simp; omega)))))).mono ?_
  rintro e w1 ⟨rfl, hb1⟩
  have hB1 : Below w.heap.size w w1 := (by repeat (first | (with_reducible exact Below.refl _ _) | (with_reducible assumption) | (with_reducible refine Below.drew ?_) | (with_reducible refine below_drewN ?_ _) | ((with_reducible refine Below.setCell ?_ ?_ _); rotate_left; (next => first | omega | exact Nat.le_refl _ | (refine Below.size (B := ?_) ?_; rotate_left; assumption) | (simp; done) | (simp; omega))) | ((with_reducible refine Below.alloc ?_ ?_ _); rotate_left; (next => first | omega | exact Nat.le_refl _ | (refine Below.size (B := ?_) ?_; rotate_left; assumption) | (simp; done) | (simp; omega))) | ((with_reducible refine Below.trans (b := ?_) ?_ (Below.mono (B := ?_) ?_ ?_)); rotate_left 3; (next => (with_reducible assumption)); (next => first | omega | exact Nat.le_refl _ | (refine Below.size (B := ?_) ?_; rotate_left; assumption) | (simp; done) | (simp; omega))) | exact Below.refl _ _ | assumption | refine Below.drew ?_ | refine below_drewN ?_ _ | refine Below.alloc ?_ (by first | omega | exact Below.size (by assumption) | (simp; done) | (simp; omega)) _ | refine Below.setCell ?_ (by first | omega | exact Below.size (by assumption) | (simp; done) | (simp; omega)) _ | refine Below.trans ?_ (Below.mono (by assumption) (by first | omega | exact Below.size (by assumption) | (simp; done) | (simp; omega)))))
  have hs1 := hB1.size
  have c1_0 := fun o => Below.cell hb1 (p := ⟨w.heap.size, o, none⟩) (by first | omega | exact Below.size (by assumption) | (simp; done) | (simp; omega))
  have f1_0 := fun o => Below.frozen hb1 (p := ⟨w.heap.size, o, none⟩) (by first | omega | exact Below.size (by assumption) | (simp; done) | (simp; omega))
  have l1_0 : w.heap.size < w1.heap.size := Nat.lt_of_lt_of_le (by first | omega | exact Below.size (by assumption) | (simp; done) | (simp; omega)) (Below.size hb1)
  have c1_1 := fun o => Below.cell hb1 (p := ⟨w.heap.size + 1, o, none⟩) (by first | omega | exact Below.size (by assumption) | (simp; done) | (simp; omega))
  have l1_1 : w.heap.size + 1 < w1.heap.size := Nat.lt_of_lt_of_le (by first | omega | exact Below.size (by assumption) | (simp; done) | (simp; omega)) (Below.size hb1)
  have c1_2 := fun o => Below.cell hb1 (p := ⟨w.heap.size + 1 + 1, o, none⟩) (by first | omega | exact Below.size (by assumption) | (simp; done) | (simp; omega))
  have f1_2 := fun o => Below.frozen hb1 (p := ⟨w.heap.size + 1 + 1, o, none⟩) (by first | omega | exact Below.size (by assumption) | (simp; done) | (simp; omega))
  have l1_2 : w.heap.size + 1 + 1 < w1.heap.size := Nat.lt_of_lt_of_le (by first | omega | exact Below.size (by assumption) | (simp; done) | (simp; omega)) (Below.size hb1)
  have B1 : Below w.heap.size w w1 := (by repeat (first | (with_reducible exact Below.refl _ _) | (with_reducible assumption) | (with_reducible refine Below.drew ?_) | (with_reducible refine below_drewN ?_ _) | ((with_reducible refine Below.setCell ?_ ?_ _); rotate_left; (next => first | omega | exact Nat.le_refl _ | (refine Below.size (B := ?_) ?_; rotate_left; assumption) | (simp; done) | (simp; omega))) | ((with_reducible refine Below.alloc ?_ ?_ _); rotate_left; (next => first | omega | exact Nat.le_refl _ | (refine Below.size (B := ?_) ?_; rotate_left; assumption) | (simp; done) | (simp; omega))) | ((with_reducible refine Below.trans (b := ?_) ?_ (Below.mono (B := ?_) ?_ ?_)); rotate_left 3; (next => (with_reducible assumption)); (next => first | omega | exact Nat.le_refl _ | (refine Below.size (B := ?_) ?_; rotate_left; assumption) | (simp; done) | (simp; omega))) | exact Below.refl _ _ | assumption | refine Below.drew ?_ | refine below_drewN ?_ _ | refine Below.alloc ?_ (by first | omega | exact Below.size (by assumption) | (simp; done) | (simp; omega)) _ | refine Below.setCell ?_ (by first | omega | exact Below.size (by assumption) | (simp; done) | (simp; omega)) _ | refine Below.trans ?_ (Below.mono (by assumption) (by first | omega | exact Below.size (by assumption) | (simp; done) | (simp; omega)))))
  clear hb1
  have k0 : w1.cell? ⟨w.heap.size, 0, none⟩ = some (.int .i64 C) := by simp [go_sem, *]
  have k1 : w1.cell? ⟨w.heap.size, 1, none⟩ = some (.int .i64 B) := by simp [go_sem, *]
  have k2 : w1.cell? ⟨w.heap.size, 2, none⟩ = some (.int .i64 E) := by simp [go_sem, *]
  have k3 : w1.cell? ⟨w.heap.size, 3, none⟩ = some (.int .i64 F) := by simp [go_sem, *]
  have k4 : w1.cell? ⟨w.heap.size, 4, none⟩ = some (.int .i64 S) := by simp [go_sem, *]
  have k5 : w1.cell? ⟨w.heap.size, 5, none⟩ = some (.int .i64 T) := by simp [go_sem, *]
  have k6 : w1.cell? ⟨w.heap.size + 1, 0, none⟩ = some (.int .i64 now) := by simp [go_sem, *]
  have k7 : w1.cell? ⟨w.heap.size + 1, 1, none⟩ = some (.int .i64 b) := by simp [go_sem, *]
  have k8 : ∀ o, w1.frozen? ⟨w.heap.size, o, none⟩ = false := fun o => by simp [go_sem, *]
  have k9 : ∀ o, w1.cell? ⟨w.heap.size + 1 + 1, o, none⟩ = (#[(.int .i64 0), (.int .i64 0), (.int .i64 0), (.int .i64 0), (.int .i64 0), (.int .i64 0)] : Array Value)[o]? := fun o => by rw [c1_2]; simp [go_sem]
  have k10 : ∀ o, w1.frozen? ⟨w.heap.size + 1 + 1, o, none⟩ = false := fun o => by simp [go_sem, *]
  clear c1_0 f1_0 c1_1 c1_2 f1_2
  go_upto_region 11 with (fail)
  go_cut [88] (fun s88 wx => s88 = .bool tb ∧ w1 = wx)
  case first =>
    rcases Hcome.out with ⟨rfl, rfl⟩ | ⟨m0, m1, rfl⟩ | ⟨m0, m1, rfl⟩
    · go_wp2_with fail
      go_meet
      exact ⟨rfl, rfl⟩
    · obtain ⟨m3, m4⟩ := (Hd m0).out
      go_wp2_with fail
      go_meet
      exact ⟨congrArg Value.bool (by simp [*]), rfl⟩
    · obtain ⟨m3, m4⟩ := (Hd m0).out
      go_wp2_with fail
      go_meet
      exact ⟨congrArg Value.bool (by simp [*] <;> omega), rfl⟩
  case rest =>
  obtain ⟨rfl, rfl⟩ := hcut
  go_upto_if 88 with (fail)
  go_cut [11] (fun s11 wx => s11 = (.int .i64 c) ∧ w1 = wx)
  case first =>
    rcases Hmin.out with ⟨rfl, m2⟩ | ⟨rfl, m2⟩
    · go_wp2_with fail
      go_meet
      exact ⟨by simp [*], rfl⟩
    · have M := Lib.hid m2
      clear m2
      go_wp2_with fail
      go_meet
      exact ⟨val_int M.out, rfl⟩
  case rest =>
    obtain ⟨rfl, rfl⟩ := hcut
    clear Hcome Hmin Hd
    go_upto_region 17 with (fail)
    have m0 : (((w1.setCell ⟨w.heap.size, 3, none⟩ (.int .i64 (F + f))).setCell ⟨w.heap.size, 4, none⟩ (.int .i64 (S + (c - f)))).setCell ⟨w.heap.size, 5, none⟩ (.int .i64 now)).cell? ⟨w.heap.size, 0, none⟩ = some (.int .i64 C) := by simp [go_sem, *]
    have m1 : (((w1.setCell ⟨w.heap.size, 3, none⟩ (.int .i64 (F + f))).setCell ⟨w.heap.size, 4, none⟩ (.int .i64 (S + (c - f)))).setCell ⟨w.heap.size, 5, none⟩ (.int .i64 now)).cell? ⟨w.heap.size, 1, none⟩ = some (.int .i64 B) := by simp [go_sem, *]
    have m2 : (((w1.setCell ⟨w.heap.size, 3, none⟩ (.int .i64 (F + f))).setCell ⟨w.heap.size, 4, none⟩ (.int .i64 (S + (c - f)))).setCell ⟨w.heap.size, 5, none⟩ (.int .i64 now)).cell? ⟨w.heap.size, 2, none⟩ = some (.int .i64 E) := by simp [go_sem, *]
    have m3 : (((w1.setCell ⟨w.heap.size, 3, none⟩ (.int .i64 (F + f))).setCell ⟨w.heap.size, 4, none⟩ (.int .i64 (S + (c - f)))).setCell ⟨w.heap.size, 5, none⟩ (.int .i64 now)).cell? ⟨w.heap.size, 3, none⟩ = some (.int .i64 (F + f)) := by simp [go_sem, *]
    have m4 : (((w1.setCell ⟨w.heap.size, 3, none⟩ (.int .i64 (F + f))).setCell ⟨w.heap.size, 4, none⟩ (.int .i64 (S + (c - f)))).setCell ⟨w.heap.size, 5, none⟩ (.int .i64 now)).cell? ⟨w.heap.size, 4, none⟩ = some (.int .i64 (S + (c - f))) := by simp [go_sem, *]
    have m5 : (((w1.setCell ⟨w.heap.size, 3, none⟩ (.int .i64 (F + f))).setCell ⟨w.heap.size, 4, none⟩ (.int .i64 (S + (c - f)))).setCell ⟨w.heap.size, 5, none⟩ (.int .i64 now)).cell? ⟨w.heap.size, 5, none⟩ = some (.int .i64 now) := by simp [go_sem, *]
    have m6 : (((w1.setCell ⟨w.heap.size, 3, none⟩ (.int .i64 (F + f))).setCell ⟨w.heap.size, 4, none⟩ (.int .i64 (S + (c - f)))).setCell ⟨w.heap.size, 5, none⟩ (.int .i64 now)).cell? ⟨w.heap.size + 1, 0, none⟩ = some (.int .i64 now) := by simp [go_sem, *]
    have m7 : (((w1.setCell ⟨w.heap.size, 3, none⟩ (.int .i64 (F + f))).setCell ⟨w.heap.size, 4, none⟩ (.int .i64 (S + (c - f)))).setCell ⟨w.heap.size, 5, none⟩ (.int .i64 now)).cell? ⟨w.heap.size + 1, 1, none⟩ = some (.int .i64 b) := by simp [go_sem, *]
    have m8 : ∀ o, (((w1.setCell ⟨w.heap.size, 3, none⟩ (.int .i64 (F + f))).setCell ⟨w.heap.size, 4, none⟩ (.int .i64 (S + (c - f)))).setCell ⟨w.heap.size, 5, none⟩ (.int .i64 now)).frozen? ⟨w.heap.size, o, none⟩ = false := fun o => by simp [go_sem, *]
    have m9 : ∀ o, (((w1.setCell ⟨w.heap.size, 3, none⟩ (.int .i64 (F + f))).setCell ⟨w.heap.size, 4, none⟩ (.int .i64 (S + (c - f)))).setCell ⟨w.heap.size, 5, none⟩ (.int .i64 now)).cell? ⟨w.heap.size + 1 + 1, o, none⟩ = (#[(.int .i64 0), (.int .i64 0), (.int .i64 0), (.int .i64 0), (.int .i64 0), (.int .i64 0)] : Array Value)[o]? := fun o => by simp [go_sem, *]
    have m10 : ∀ o, (((w1.setCell ⟨w.heap.size, 3, none⟩ (.int .i64 (F + f))).setCell ⟨w.heap.size, 4, none⟩ (.int .i64 (S + (c - f)))).setCell ⟨w.heap.size, 5, none⟩ (.int .i64 now)).frozen? ⟨w.heap.size + 1 + 1, o, none⟩ = false := fun o => by simp [go_sem, *]
    have M : Below w.heap.size w (((w1.setCell ⟨w.heap.size, 3, none⟩ (.int .i64 (F + f))).setCell ⟨w.heap.size, 4, none⟩ (.int .i64 (S + (c - f)))).setCell ⟨w.heap.size, 5, none⟩ (.int .i64 now)) := (by repeat (first | (with_reducible exact Below.refl _ _) | (with_reducible assumption) | (with_reducible refine Below.drew ?_) | (with_reducible refine below_drewN ?_ _) | ((with_reducible refine Below.setCell ?_ ?_ _); rotate_left; (next => first | omega | exact Nat.le_refl _ | (refine Below.size (B := ?_) ?_; rotate_left; assumption) | (simp; done) | (simp; omega))) | ((with_reducible refine Below.alloc ?_ ?_ _); rotate_left; (next => first | omega | exact Nat.le_refl _ | (refine Below.size (B := ?_) ?_; rotate_left; assumption) | (simp; done) | (simp; omega))) | ((with_reducible refine Below.trans (b := ?_) ?_ (Below.mono (B := ?_) ?_ ?_)); rotate_left 3; (next => (with_reducible assumption)); (next => first | omega | exact Nat.le_refl _ | (refine Below.size (B := ?_) ?_; rotate_left; assumption) | (simp; done) | (simp; omega)))))
    generalize ((w1.setCell ⟨w.heap.size, 3, none⟩ (.int .i64 (F + f))).setCell ⟨w.heap.size, 4, none⟩ (.int .i64 (S + (c - f)))).setCell ⟨w.heap.size, 5, none⟩ (.int .i64 now) = w2 at m0 m1 m2 m3 m4 m5 m6 m7 m8 m9 m10 M ⊢
    clear k0 k1 k2 k3 k4 k5 k6 k7 k8 k9 k10 B1 hB1 hs1 hf
    rcases Hcs.out with ⟨rfl, k1, rfl⟩ | ⟨rfl, k1, k2, rfl⟩ | ⟨rfl, k1, rfl⟩ | ⟨rfl, k1, k2, rfl⟩ | ⟨rfl, k1, rfl⟩ | ⟨rfl, rfl⟩
    · go_wp2_with fail
      refine bodyPost_ret (v := .tuple #[.agg #[(.int .i64 C), (.int .i64 B), (.int .i64 E), (.int .i64 (F + f - b)), (.int .i64 (S + (c - f))), (.int .i64 now)], (.int .i64 1), (.int .i64 0)]) (by simp [results, Try.results15, go_sem, *]) rfl ?_
      exact ⟨rfl, (by repeat (first | (with_reducible exact Below.refl _ _) | (with_reducible assumption) | (with_reducible refine Below.drew ?_) | (with_reducible refine below_drewN ?_ _) | ((with_reducible refine Below.setCell ?_ ?_ _); rotate_left; (next => first | omega | exact Nat.le_refl _ | (refine Below.size (B := ?_) ?_; rotate_left; assumption) | (simp; done) | (simp; omega))) | ((with_reducible refine Below.alloc ?_ ?_ _); rotate_left; (next => first | omega | exact Nat.le_refl _ | (refine Below.size (B := ?_) ?_; rotate_left; assumption) | (simp; done) | (simp; omega))) | ((with_reducible refine Below.trans (b := ?_) ?_ (Below.mono (B := ?_) ?_ ?_)); rotate_left 3; (next => (with_reducible assumption)); (next => first | omega | exact Nat.le_refl _ | (refine Below.size (B := ?_) ?_; rotate_left; assumption) | (simp; done) | (simp; omega)))))⟩
    · go_wp2_with fail
      refine bodyPost_ret (v := .tuple #[.agg #[(.int .i64 C), (.int .i64 B), (.int .i64 E), (.int .i64 (F + f)), (.int .i64 (S + (c - f) - b)), (.int .i64 now)], (.int .i64 2), (.int .i64 0)]) (by simp [results, Try.results15, go_sem, *]) rfl ?_
      exact ⟨rfl, (by repeat (first | (with_reducible exact Below.refl _ _) | (with_reducible assumption) | (with_reducible refine Below.drew ?_) | (with_reducible refine below_drewN ?_ _) | ((with_reducible refine Below.setCell ?_ ?_ _); rotate_left; (next => first | omega | exact Nat.le_refl _ | (refine Below.size (B := ?_) ?_; rotate_left; assumption) | (simp; done) | (simp; omega))) | ((with_reducible refine Below.alloc ?_ ?_ _); rotate_left; (next => first | omega | exact Nat.le_refl _ | (refine Below.size (B := ?_) ?_; rotate_left; assumption) | (simp; done) | (simp; omega))) | ((with_reducible refine Below.trans (b := ?_) ?_ (Below.mono (B := ?_) ?_ ?_)); rotate_left 3; (next => (with_reducible assumption)); (next => first | omega | exact Nat.le_refl _ | (refine Below.size (B := ?_) ?_; rotate_left; assumption) | (simp; done) | (simp; omega)))))⟩
    · go_wp2_with fail
      refine bodyPost_ret (v := .tuple #[.agg #[(.int .i64 C), (.int .i64 B), (.int .i64 E), (.int .i64 (F + f)), (.int .i64 (S + (c - f) - b)), (.int .i64 now)], (.int .i64 2), (.int .i64 0)]) (by simp [results, Try.results15, go_sem, *]) rfl ?_
      exact ⟨rfl, (by repeat (first | (with_reducible exact Below.refl _ _) | (with_reducible assumption) | (with_reducible refine Below.drew ?_) | (with_reducible refine below_drewN ?_ _) | ((with_reducible refine Below.setCell ?_ ?_ _); rotate_left; (next => first | omega | exact Nat.le_refl _ | (refine Below.size (B := ?_) ?_; rotate_left; assumption) | (simp; done) | (simp; omega))) | ((with_reducible refine Below.alloc ?_ ?_ _); rotate_left; (next => first | omega | exact Nat.le_refl _ | (refine Below.size (B := ?_) ?_; rotate_left; assumption) | (simp; done) | (simp; omega))) | ((with_reducible refine Below.trans (b := ?_) ?_ (Below.mono (B := ?_) ?_ ?_)); rotate_left 3; (next => (with_reducible assumption)); (next => first | omega | exact Nat.le_refl _ | (refine Below.size (B := ?_) ?_; rotate_left; assumption) | (simp; done) | (simp; omega)))))⟩
    all_goals
      go_wp2_with fail
      refine bodyPost_ret (v := .tuple #[.agg #[(.int .i64 C), (.int .i64 B), (.int .i64 E), (.int .i64 (F + f)), (.int .i64 (S + (c - f))), (.int .i64 now)], (.int .i64 3), (.int .i64 0)]) (by simp [results, Try.results15, go_sem, *]) rfl ?_
      exact ⟨rfl, (by repeat (first | (with_reducible exact Below.refl _ _) | (with_reducible assumption) | (with_reducible refine Below.drew ?_) | (with_reducible refine below_drewN ?_ _) | ((with_reducible refine Below.setCell ?_ ?_ _); rotate_left; (next => first | omega | exact Nat.le_refl _ | (refine Below.size (B := ?_) ?_; rotate_left; assumption) | (simp; done) | (simp; omega))) | ((with_reducible refine Below.alloc ?_ ?_ _); rotate_left; (next => first | omega | exact Nat.le_refl _ | (refine Below.size (B := ?_) ?_; rotate_left; assumption) | (simp; done) | (simp; omega))) | ((with_reducible refine Below.trans (b := ?_) ?_ (Below.mono (B := ?_) ?_ ?_)); rotate_left 3; (next => (with_reducible assumption)); (next => first | omega | exact Nat.le_refl _ | (refine Below.size (B := ?_) ?_; rotate_left; assumption) | (simp; done) | (simp; omega)))))⟩
end Go.Proofs.Ytdfjeoifeladfaa.Meter
