/- Walk of the reference's ITake. -/
import Derived.Test.YtdfjeoifeladfaaBucketK
import Derived.Test.YtdfjeoifeladfaaBucketL
import Derived.Deep.Cut
import Derived.Deep.RegionWith
import Derived.Deep.DeepCutAuto
namespace Go.Proofs.Ytdfjeoifeladfaa.Bucket
open Go.RowKit Go.Proofs.Ytdfjeoifeladfaa.Big

theorem itake_err1 (num den burst level at0 sat sb : Int) (w : World) (hr : bright num den burst level at0 = false) :
    Calls Try.prog 25 #[.agg #[(.int .i64 num), (.int .i64 den), (.int .i64 burst), (.int .i64 level), (.int .i64 at0)], .agg #[(.int .i64 sat), (.int .i64 sb)]] w fun e w' => e = .returned (.tuple #[.agg #[(.int .i64 0), (.int .i64 0), (.int .i64 0), (.int .i64 0), (.int .i64 0)], .bool false, (.int .i64 1)]) ∧ Below w.heap.size w w' := by
  have h1 := fun W => iright_any num den burst level at0 W
  rw [hr] at h1
  have H1 := Lib.hid h1
  clear h1 hr
  go_enter Try.func25, Try.ntmps25
  go_wp2_with fail
  refine (H1.out _).mono ?_
  rintro e w1 ⟨rfl, hb⟩
  have c1_0 := fun o => Below.cell hb (p := ⟨w.heap.size, o, none⟩) (by first | omega | exact Below.size (by assumption) | (simp; done) | (simp; omega))
  have f1_0 := fun o => Below.frozen hb (p := ⟨w.heap.size, o, none⟩) (by first | omega | exact Below.size (by assumption) | (simp; done) | (simp; omega))
  have l1_0 : w.heap.size < w1.heap.size := Nat.lt_of_lt_of_le (by first | omega | exact Below.size (by assumption) | (simp; done) | (simp; omega)) (Below.size hb)
  have c1_1 := fun o => Below.cell hb (p := ⟨w.heap.size + 1, o, none⟩) (by first | omega | exact Below.size (by assumption) | (simp; done) | (simp; omega))
  have l1_1 : w.heap.size + 1 < w1.heap.size := Nat.lt_of_lt_of_le (by first | omega | exact Below.size (by assumption) | (simp; done) | (simp; omega)) (Below.size hb)
  have c1_2 := fun o => Below.cell hb (p := ⟨w.heap.size + 1 + 1, o, none⟩) (by first | omega | exact Below.size (by assumption) | (simp; done) | (simp; omega))
  have f1_2 := fun o => Below.frozen hb (p := ⟨w.heap.size + 1 + 1, o, none⟩) (by first | omega | exact Below.size (by assumption) | (simp; done) | (simp; omega))
  have l1_2 : w.heap.size + 1 + 1 < w1.heap.size := Nat.lt_of_lt_of_le (by first | omega | exact Below.size (by assumption) | (simp; done) | (simp; omega)) (Below.size hb)
  go_wp2_with fail
  refine bodyPost_ret (v := .tuple #[.agg #[(.int .i64 0), (.int .i64 0), (.int .i64 0), (.int .i64 0), (.int .i64 0)], .bool false, (.int .i64 1)]) (by simp [results, Try.results25, go_sem, *]) rfl ?_
  exact ⟨rfl, (by repeat (first | (with_reducible exact Below.refl _ _) | (with_reducible assumption) | (with_reducible refine Below.drew ?_) | (with_reducible refine below_drewN ?_ _) | ((with_reducible refine Below.setCell ?_ ?_ _); rotate_left; (next => first | omega | exact Nat.le_refl _ | (refine Below.size (B := ?_) ?_; rotate_left; assumption) | (simp; done) | (simp; omega))) | ((with_reducible refine Below.alloc ?_ ?_ _); rotate_left; (next => first | omega | exact Nat.le_refl _ | (refine Below.size (B := ?_) ?_; rotate_left; assumption) | (simp; done) | (simp; omega))) | ((with_reducible refine Below.trans (b := ?_) ?_ (Below.mono (B := ?_) ?_ ?_)); rotate_left 3; (next => (with_reducible assumption)); (next => first | omega | exact Nat.le_refl _ | (refine Below.size (B := ?_) ?_; rotate_left; assumption) | (simp; done) | (simp; omega)))))⟩

set_option maxHeartbeats 1000000 in
theorem itake_err2 (num den burst level at0 sat sb : Int) (w : World) (hr : bright num den burst level at0 = true) (h : sat < at0 ∨ at0 ≤ sat ∧ 1099511627776 < sat ∨ at0 ≤ sat ∧ sat ≤ 1099511627776 ∧ sb < 0 ∨ at0 ≤ sat ∧ sat ≤ 1099511627776 ∧ 0 ≤ sb ∧ 1048576 < sb) :
    Calls Try.prog 25 #[.agg #[(.int .i64 num), (.int .i64 den), (.int .i64 burst), (.int .i64 level), (.int .i64 at0)], .agg #[(.int .i64 sat), (.int .i64 sb)]] w fun e w' => e = .returned (.tuple #[.agg #[(.int .i64 0), (.int .i64 0), (.int .i64 0), (.int .i64 0), (.int .i64 0)], .bool false, (.int .i64 2)]) ∧ Below w.heap.size w w' := by
  have h1 := fun W => iright_any num den burst level at0 W
  rw [hr] at h1
  have H1 := Lib.hid h1
  clear h1 hr
  rcases h with a1 | ⟨a1, a2⟩ | ⟨a1, a2, a3⟩ | ⟨a1, a2, a3, a4⟩
  all_goals
    go_enter Try.func25, Try.ntmps25
    go_wp2_with fail
    refine (H1.out _).mono ?_
    rintro e w1 ⟨rfl, hb⟩
    have c1_0 := fun o => Below.cell hb (p := ⟨w.heap.size, o, none⟩) (by first | omega | exact Below.size (by assumption) | (simp; done) | (simp; omega))
    have f1_0 := fun o => Below.frozen hb (p := ⟨w.heap.size, o, none⟩) (by first | omega | exact Below.size (by assumption) | (simp; done) | (simp; omega))
    have l1_0 : w.heap.size < w1.heap.size := Nat.lt_of_lt_of_le (by first | omega | exact Below.size (by assumption) | (simp; done) | (simp; omega)) (Below.size hb)
    have c1_1 := fun o => Below.cell hb (p := ⟨w.heap.size + 1, o, none⟩) (by first | omega | exact Below.size (by assumption) | (simp; done) | (simp; omega))
    have l1_1 : w.heap.size + 1 < w1.heap.size := Nat.lt_of_lt_of_le (by first | omega | exact Below.size (by assumption) | (simp; done) | (simp; omega)) (Below.size hb)
    have c1_2 := fun o => Below.cell hb (p := ⟨w.heap.size + 1 + 1, o, none⟩) (by first | omega | exact Below.size (by assumption) | (simp; done) | (simp; omega))
    have f1_2 := fun o => Below.frozen hb (p := ⟨w.heap.size + 1 + 1, o, none⟩) (by first | omega | exact Below.size (by assumption) | (simp; done) | (simp; omega))
    have l1_2 : w.heap.size + 1 + 1 < w1.heap.size := Nat.lt_of_lt_of_le (by first | omega | exact Below.size (by assumption) | (simp; done) | (simp; omega)) (Below.size hb)
    go_wp2_with fail
    refine bodyPost_ret (v := .tuple #[.agg #[(.int .i64 0), (.int .i64 0), (.int .i64 0), (.int .i64 0), (.int .i64 0)], .bool false, (.int .i64 2)]) (by simp [results, Try.results25, go_sem, *]) rfl ?_
    exact ⟨rfl, (by repeat (first | (with_reducible exact Below.refl _ _) | (with_reducible assumption) | (with_reducible refine Below.drew ?_) | (with_reducible refine below_drewN ?_ _) | ((with_reducible refine Below.setCell ?_ ?_ _); rotate_left; (next => first | omega | exact Nat.le_refl _ | (refine Below.size (B := ?_) ?_; rotate_left; assumption) | (simp; done) | (simp; omega))) | ((with_reducible refine Below.alloc ?_ ?_ _); rotate_left; (next => first | omega | exact Nat.le_refl _ | (refine Below.size (B := ?_) ?_; rotate_left; assumption) | (simp; done) | (simp; omega))) | ((with_reducible refine Below.trans (b := ?_) ?_ (Below.mono (B := ?_) ?_ ?_)); rotate_left 3; (next => (with_reducible assumption)); (next => first | omega | exact Nat.le_refl _ | (refine Below.size (B := ?_) ?_; rotate_left; assumption) | (simp; done) | (simp; omega)))))⟩

set_option maxHeartbeats 1000000 in
theorem itake_go (num den burst level at0 sat sb : Int) (w : World) (hr : bright num den burst level at0 = true) (a1 : at0 ≤ sat) (a2 : sat ≤ 1099511627776) (a3 : 0 ≤ sb) (a4 : sb ≤ 1048576) :
    Calls Try.prog 25 #[.agg #[(.int .i64 num), (.int .i64 den), (.int .i64 burst), (.int .i64 level), (.int .i64 at0)], .agg #[(.int .i64 sat), (.int .i64 sb)]] w fun e w' => e = .returned (takeV (take ⟨num, den, burst, level, at0⟩ sat sb)) ∧ Below w.heap.size w w' := by
  have h1 := fun W => iright_any num den burst level at0 W
  rw [hr] at h1
  have H1 := Lib.hid h1
  have HL : Hid (∀ W, Calls Try.prog 78 #[.agg #[(.int .i64 num), (.int .i64 den), (.int .i64 burst), (.int .i64 level), (.int .i64 at0)], (.int .i64 sat)] W fun e w' => e = .returned ((.int .i64 (lev num den burst level at0 sat))) ∧ Below W.heap.size W w') := Lib.hid fun W => by
    obtain ⟨⟨k0, k1⟩, ⟨k2, k3⟩, k4, k5⟩ := rng_iff.1 (bright_rng hr)
    have p1 : burst * den ≤ 1048576 * 1048576 := Int.mul_le_mul k5 k3 (by omega) (by omega)
    simp only [bright, Bool.and_eq_true, decide_eq_true_eq] at hr
    exact ilevel_any num den burst level at0 sat W k0 k1 (by omega) k3 k4 k5 hr.1.1.1.2 (by omega) hr.1.2 a1 a2
  have hlv : 0 ≤ lev num den burst level at0 sat ∧ lev num den burst level at0 sat ≤ 1099511627776 ∧ 0 ≤ sb * den ∧ sb * den ≤ 1099511627776 := by
    obtain ⟨l0, l1, l2, d0, d1⟩ := lev_bd hr a1
    obtain ⟨p0, p1⟩ := prod_bd a3 a4 d0 d1
    exact ⟨l0, by omega, p0, p1⟩
  obtain ⟨l0, l1, l2, l3⟩ := hlv
  have HT : Hid ((sb * den ≤ lev num den burst level at0 sat ∧ takeV (take ⟨num, den, burst, level, at0⟩ sat sb) = .tuple #[.agg #[(.int .i64 num), (.int .i64 den), (.int .i64 burst), (.int .i64 (lev num den burst level at0 sat - sb * den)), (.int .i64 sat)], .bool true, (.int .i64 0)]) ∨
    (lev num den burst level at0 sat < sb * den ∧ takeV (take ⟨num, den, burst, level, at0⟩ sat sb) = .tuple #[.agg #[(.int .i64 num), (.int .i64 den), (.int .i64 burst), (.int .i64 (lev num den burst level at0 sat)), (.int .i64 sat)], .bool false, (.int .i64 0)])) := Lib.hid (by
    rcases take_cases num den burst level at0 sat sb with ⟨hr', h⟩ | ⟨hr, h1, h⟩ | ⟨hr, h1, h2, h3, h⟩ | ⟨hr, h1, h2, h3, h4, h5, h⟩ | ⟨hr, h1, h2, h3, h4, h5, h⟩
    · rw [hr] at hr'; cases hr'
    · omega
    · omega
    · exact .inl ⟨h5, h⟩
    · exact .inr ⟨h5, h⟩)
  generalize lev num den burst level at0 sat = lv at HL HT l0 l1
  generalize takeV (take ⟨num, den, burst, level, at0⟩ sat sb) = tv at HT ⊢
  clear hr h1
  go_enter Try.func25, Try.ntmps25
  go_wp2_with fail
  refine (H1.out _).mono ?_
  rintro e w1 ⟨rfl, hb⟩
  have c1_0 := fun o => Below.cell hb (p := ⟨w.heap.size, o, none⟩) (by first | omega | exact Below.size (by assumption) | (simp; done) | (simp; omega))
  have f1_0 := fun o => Below.frozen hb (p := ⟨w.heap.size, o, none⟩) (by first | omega | exact Below.size (by assumption) | (simp; done) | (simp; omega))
  have l1_0 : w.heap.size < w1.heap.size := Nat.lt_of_lt_of_le (by first | omega | exact Below.size (by assumption) | (simp; done) | (simp; omega)) (Below.size hb)
  have c1_1 := fun o => Below.cell hb (p := ⟨w.heap.size + 1, o, none⟩) (by first | omega | exact Below.size (by assumption) | (simp; done) | (simp; omega))
  have l1_1 : w.heap.size + 1 < w1.heap.size := Nat.lt_of_lt_of_le (by first | omega | exact Below.size (by assumption) | (simp; done) | (simp; omega)) (Below.size hb)
  have c1_2 := fun o => Below.cell hb (p := ⟨w.heap.size + 1 + 1, o, none⟩) (by first | omega | exact Below.size (by assumption) | (simp; done) | (simp; omega))
  have f1_2 := fun o => Below.frozen hb (p := ⟨w.heap.size + 1 + 1, o, none⟩) (by first | omega | exact Below.size (by assumption) | (simp; done) | (simp; omega))
  have l1_2 : w.heap.size + 1 + 1 < w1.heap.size := Nat.lt_of_lt_of_le (by first | omega | exact Below.size (by assumption) | (simp; done) | (simp; omega)) (Below.size hb)
  have hB1 : Below w.heap.size w w1 := (by repeat (first | (with_reducible exact Below.refl _ _) | (with_reducible assumption) | (with_reducible refine Below.drew ?_) | (with_reducible refine below_drewN ?_ _) | ((with_reducible refine Below.setCell ?_ ?_ _); rotate_left; (next => first | omega | exact Nat.le_refl _ | (refine Below.size (B := ?_) ?_; rotate_left; assumption) | (simp; done) | (simp; omega))) | ((with_reducible refine Below.alloc ?_ ?_ _); rotate_left; (next => first | omega | exact Nat.le_refl _ | (refine Below.size (B := ?_) ?_; rotate_left; assumption) | (simp; done) | (simp; omega))) | ((with_reducible refine Below.trans (b := ?_) ?_ (Below.mono (B := ?_) ?_ ?_)); rotate_left 3; (next => (with_reducible assumption)); (next => first | omega | exact Nat.le_refl _ | (refine Below.size (B := ?_) ?_; rotate_left; assumption) | (simp; done) | (simp; omega))) | exact Below.refl _ _ | assumption | refine Below.drew ?_ | refine below_drewN ?_ _ | refine Below.alloc ?_ (by first | omega | exact Below.size (by assumption) | (simp; done) | (simp; omega)) _ | refine Below.setCell ?_ (by first | omega | exact Below.size (by assumption) | (simp; done) | (simp; omega)) _ | refine Below.trans ?_ (Below.mono (by assumption) (by first | omega | exact Below.size (by assumption) | (simp; done) | (simp; omega)))))
  clear hb
  go_upto_region 5 with (fail)
  go_cut [] (fun wx => Below w.heap.size w wx ∧ (wx.cell? ⟨w.heap.size, 0, none⟩ = some (.int .i64 num) ∧ wx.cell? ⟨w.heap.size, 1, none⟩ = some (.int .i64 den) ∧ wx.cell? ⟨w.heap.size, 2, none⟩ = some (.int .i64 burst) ∧ wx.cell? ⟨w.heap.size, 3, none⟩ = some (.int .i64 lv) ∧ wx.cell? ⟨w.heap.size, 4, none⟩ = some (.int .i64 sat)) ∧
    (∀ o, wx.frozen? ⟨w.heap.size, o, none⟩ = false) ∧ (∀ o, wx.cell? ⟨w.heap.size + 1, o, none⟩ = w1.cell? ⟨w.heap.size + 1, o, none⟩) ∧ (∀ o, wx.cell? ⟨w.heap.size + 1 + 1, o, none⟩ = w1.cell? ⟨w.heap.size + 1 + 1, o, none⟩) ∧ (∀ o, wx.frozen? ⟨w.heap.size + 1 + 1, o, none⟩ = w1.frozen? ⟨w.heap.size + 1 + 1, o, none⟩))
  case first =>
    go_region_with (go_at_call 78; refine (HL.out _).mono ?_; rintro e w2 ⟨rfl, hb2⟩; go_loud ( have c2_0 := fun o => Below.cell hb2 (p := ⟨w.heap.size, o, none⟩) l1_0; have c2_1 := fun o => Below.cell hb2 (p := ⟨w.heap.size + 1, o, none⟩) l1_1; have c2_2 := fun o => Below.cell hb2 (p := ⟨w.heap.size + 1 + 1, o, none⟩) l1_2; have f2_0 := fun o => Below.frozen hb2 (p := ⟨w.heap.size, o, none⟩) l1_0; have f2_2 := fun o => Below.frozen hb2 (p := ⟨w.heap.size + 1 + 1, o, none⟩) l1_2; have hB2 : Below w.heap.size w w2 := (by repeat (first | (with_reducible exact Below.refl _ _) | (with_reducible assumption) | (with_reducible refine Below.drew ?_) | (with_reducible refine below_drewN ?_ _) | ((with_reducible refine Below.setCell ?_ ?_ _); rotate_left; (next => first | omega | exact Nat.le_refl _ | (refine Below.size (B := ?_) ?_; rotate_left; assumption) | (simp; done) | (simp; omega))) | ((with_reducible refine Below.alloc ?_ ?_ _); rotate_left; (next => first | omega | exact Nat.le_refl _ | (refine Below.size (B := ?_) ?_; rotate_left; assumption) | (simp; done) | (simp; omega))) | ((with_reducible refine Below.trans (b := ?_) ?_ (Below.mono (B := ?_) ?_ ?_)); rotate_left 3; (next => (with_reducible assumption)); (next => first | omega | exact Nat.le_refl _ | (refine Below.size (B := ?_) ?_; rotate_left; assumption) | (simp; done) | (simp; omega))) | exact Below.refl _ _ | assumption | refine Below.drew ?_ | refine below_drewN ?_ _ | refine Below.alloc ?_ (by first | omega | exact Below.size (by assumption) | (simp; done) | (simp; omega)) _ | refine Below.setCell ?_ (by first | omega | exact Below.size (by assumption) | (simp; done) | (simp; omega)) _ | refine Below.trans ?_ (Below.mono (by assumption) (by first | omega | exact Below.size (by assumption) | (simp; done) | (simp; omega))))));  go_loud (have k3 : w2.cell? ⟨w.heap.size, 3, none⟩ = some (.int .i64 level) := by (simp [go_sem, *])); go_loud (have k4 : w2.cell? ⟨w.heap.size, 4, none⟩ = some (.int .i64 at0) := by (simp [go_sem, *])))
    all_goals (go_wp2_with fail; go_meet)
    all_goals exact ⟨(hB2.setCell (Nat.le_refl _) _).setCell (Nat.le_refl _) _, ⟨by simp [go_sem, *], by simp [go_sem, *], by simp [go_sem, *], (World.cell?_setCell_other _ _ _ _ (by simp)).trans (World.cell?_setCell_same _ _ _ k3), World.cell?_setCell_same _ _ _ ((World.cell?_setCell_other _ _ _ _ (by simp)).trans k4)⟩, fun o => by simp [go_sem, *], fun o => by simp [go_sem, *], fun o => by simp [go_sem, *], fun o => by simp [go_sem, *]⟩
  case rest =>
    obtain ⟨hBx, ⟨x0, x1, x2, x3, x4⟩, fx, y1, y2, fy⟩ := hcut
    rcases HT.out with ⟨h5, Htv⟩ | ⟨h5, Htv⟩
    all_goals (have Htv := Lib.hid Htv; clear HT)
    · go_wp2_with fail
      refine bodyPost_ret (v := .tuple #[.agg #[(.int .i64 num), (.int .i64 den), (.int .i64 burst), (.int .i64 (lv - sb * den)), (.int .i64 sat)], .bool true, (.int .i64 0)]) (by simp [results, Try.results25, go_sem, *]) rfl ?_
      exact ⟨by rw [Htv.out], (by repeat (first | (with_reducible exact Below.refl _ _) | (with_reducible assumption) | (with_reducible refine Below.drew ?_) | (with_reducible refine below_drewN ?_ _) | ((with_reducible refine Below.setCell ?_ ?_ _); rotate_left; (next => first | omega | exact Nat.le_refl _ | (refine Below.size (B := ?_) ?_; rotate_left; assumption) | (simp; done) | (simp; omega))) | ((with_reducible refine Below.alloc ?_ ?_ _); rotate_left; (next => first | omega | exact Nat.le_refl _ | (refine Below.size (B := ?_) ?_; rotate_left; assumption) | (simp; done) | (simp; omega))) | ((with_reducible refine Below.trans (b := ?_) ?_ (Below.mono (B := ?_) ?_ ?_)); rotate_left 3; (next => (with_reducible assumption)); (next => first | omega | exact Nat.le_refl _ | (refine Below.size (B := ?_) ?_; rotate_left; assumption) | (simp; done) | (simp; omega)))))⟩
    · go_wp2_with fail
      refine bodyPost_ret (v := .tuple #[.agg #[(.int .i64 num), (.int .i64 den), (.int .i64 burst), (.int .i64 lv), (.int .i64 sat)], .bool false, (.int .i64 0)]) (by simp [results, Try.results25, go_sem, *]) rfl ?_
      exact ⟨by rw [Htv.out], (by repeat (first | (with_reducible exact Below.refl _ _) | (with_reducible assumption) | (with_reducible refine Below.drew ?_) | (with_reducible refine below_drewN ?_ _) | ((with_reducible refine Below.setCell ?_ ?_ _); rotate_left; (next => first | omega | exact Nat.le_refl _ | (refine Below.size (B := ?_) ?_; rotate_left; assumption) | (simp; done) | (simp; omega))) | ((with_reducible refine Below.alloc ?_ ?_ _); rotate_left; (next => first | omega | exact Nat.le_refl _ | (refine Below.size (B := ?_) ?_; rotate_left; assumption) | (simp; done) | (simp; omega))) | ((with_reducible refine Below.trans (b := ?_) ?_ (Below.mono (B := ?_) ?_ ?_)); rotate_left 3; (next => (with_reducible assumption)); (next => first | omega | exact Nat.le_refl _ | (refine Below.size (B := ?_) ?_; rotate_left; assumption) | (simp; done) | (simp; omega)))))⟩
end Go.Proofs.Ytdfjeoifeladfaa.Bucket
