/- Walk: the reference's KServe. -/
import Derived.Test.YtlmnlffbbbcodaaCurveS2
namespace Go.Proofs.Ytlmnlffbbbcodaa.CurveS
open Go.RowKit

set_option maxRecDepth 100000 in
set_option maxHeartbeats 2000000 in
theorem kserve_any (l r : Int) (A : Option Addr) (n c : Nat) (zs : List Int) (w : World) (hr : RdI .i64 w A zs) (hn : zs.length = n) (hl : fit20 l = true) (hr1 : fit20 r = true) (hbad : badL zs = false) :
    Calls Try.prog 31 #[.agg #[(.int .i64 l), (.int .i64 r)], .slice A n c] w fun e w' => ∃ v, e = .returned v ∧ OwnI w' (w.heap.size + 1) 3 .i64 v (served l r zs n) ∧ Below w.heap.size w w' := by
  obtain ⟨gl, ga⟩ := good_all hbad
  have hnb : n ≤ 400 := by omega
  have hl2 := fit20_true hl
  have hr2 := fit20_true hr1
  have HG := Lib.hid ga
  have Hst : Hid (∀ k : Nat, 0 ≤ (st l r zs k).1 ∧ (st l r zs k).1 ≤ 1048576 * (k : Int) ∧ 0 ≤ (st l r zs k).2 ∧ (st l r zs k).2 ≤ k) := Lib.hid fun k => by
    have h1 := st_bd (late := l) (rate := r) ga hr2.1 k
    have h2 := S_bd ga k
    omega
  obtain ⟨l0, l1⟩ := hl2
  obtain ⟨r0, r1⟩ := hr2
  have Hn := Lib.hid hn
  have Hr := Lib.hid hr
  clear hn hr hr1 hbad gl ga hl
  go_enter Try.func31, Try.ntmps31
  go_wp2_with fail
  generalize hW : World.alloc w _ = w1
  have hb1 := named hW
  clear hW
  have c1_0 := fun o => Below.cell hb1 (p := ⟨w.heap.size, o, none⟩) (by first | omega | exact Below.size (by assumption) | (simp; done) | (simp; omega))
  have l1_0 : w.heap.size < w1.heap.size := Nat.lt_of_lt_of_le (by first | omega | exact Below.size (by assumption) | (simp; done) | (simp; omega)) (Below.size hb1)
  have hB1 : Below w.heap.size w w1 := (by repeat (first | (with_reducible exact Below.refl _ _) | (with_reducible assumption) | (with_reducible refine Below.drew ?_) | (with_reducible refine below_drewN ?_ _) | ((with_reducible refine Below.setCell ?_ ?_ _); rotate_left; (next => first | omega | exact Nat.le_refl _ | (refine Below.size (B := ?_) ?_; rotate_left; assumption) | (simp; done) | (simp; omega))) | ((with_reducible refine Below.alloc ?_ ?_ _); rotate_left; (next => first | omega | exact Nat.le_refl _ | (refine Below.size (B := ?_) ?_; rotate_left; assumption) | (simp; done) | (simp; omega))) | ((with_reducible refine Below.trans (b := ?_) ?_ (Below.mono (B := ?_) ?_ ?_)); rotate_left 3; (next => (with_reducible assumption)); (next => first | omega | exact Nat.le_refl _ | (refine Below.size (B := ?_) ?_; rotate_left; assumption) | (simp; done) | (simp; omega))) | exact Below.refl _ _ | assumption | refine Below.drew ?_ | refine below_drewN ?_ _ | refine Below.alloc ?_ (by first | omega | exact Below.size (by assumption) | (simp; done) | (simp; omega)) _ | refine Below.setCell ?_ (by first | omega | exact Below.size (by assumption) | (simp; done) | (simp; omega)) _ | refine Below.trans ?_ (Below.mono (by assumption) (by first | omega | exact Below.size (by assumption) | (simp; done) | (simp; omega)))))
  have hs1 : w.heap.size + 1 ≤ w1.heap.size := l1_0
  go_loopw [5, 6, 7, 8, 14] (fun v a g s i W => ∃ (k : Nat) (gn : Int), k ≤ n ∧ i = .int .i64 k ∧ 0 ≤ gn ∧ gn ≤ 1048576 * (k : Int) ∧ g = .int .i64 gn ∧ a = .int .i64 (gn + (st l r zs k).1) ∧ s = .int .i64 (st l r zs k).2 ∧ OwnI W (w.heap.size + 1) 3 .i64 v (served l r zs k) ∧ Below (w.heap.size + 1) w1 W) (fun _ _ _ _ i _ => n - (intOf i).toNat)
  case atStart => exact ⟨0, 0, by omega, rfl, by omega, by omega, rfl, rfl, rfl, OwnI.nil _ _ _ _, Below.refl _ _⟩
  case round =>
    obtain ⟨k, gn, hk, rfl, g0, g1, rfl, rfl, rfl, hown, hbw⟩ := hrel
    have Hown := Lib.hid hown; clear hown
    have hB : Below w.heap.size w wr := hB1.trans (hbw.mono (by omega))
    have hsz := hbw.size
    have d1 := fun o => hbw.cell (p := ⟨w.heap.size, o, none⟩) (by simp)
    obtain ⟨q0, q1, q2, q3⟩ := Hst.out k
    by_cases hlt : k < n
    · have hl : k < zs.length := by have := Hn.out; omega
      obtain ⟨bb, off, rfl, hbb, hbl, hc⟩ := Hr.out.atb hB hl
      obtain ⟨x0, x1⟩ := HG.out _ (List.getElem_mem hl)
      have HST := Lib.hid (step_ways (late := l) (rate := r) (l := zs) k)
      simp only [getD_of hl] at HST
      have HSV := Lib.hid (served_succ l r zs k)
      have Hlen : Hid ((served l r zs k).length ≤ 400) := Lib.hid (by rw [served_len]; omega)
      generalize zs[k] = x at hc x0 x1 HST
      generalize (st l r zs k).1 = a at q0 q1 HST ⊢
      generalize (st l r zs k).2 = s at q2 q3 HST ⊢
      generalize served l r zs k = ys at Hown HSV Hlen
      generalize goes l r zs k = g at HST HSV
      rcases HST.out with ⟨h1, h2, h3⟩ | ⟨h1, h2, h3, h4⟩ | ⟨h1, h2, h3, h4, h5⟩ | ⟨h1, h2, h3, h4, h5⟩
      · obtain rfl : a = 0 := by omega
        obtain rfl : x = 0 := by omega
        have H2 := Lib.hid h2
        have H3 := Lib.hid h3
        clear h1 h2 h3 HST
        go_wp2_with (at_builtin; refine wpList_app1 rfl _ _ 23 rfl 3 .i64 8 Try.underlying23 infoI8 (w.heap.size + 1) ys 0 _ rfl _ rfl (by decide) ?own ?cell ?len ?base ?_)
        case own => exact Hown.out.alloc _
        try (case cell => simp [go_sem])
        case len => (have := Hlen.out; omega)
        case base => first | omega | (simp; omega)
        intro v' w' hown' hgr
        have hbw' : Below (w.heap.size + 1) w1 w' := OwnI.grown (Hown.out.alloc _) (hbw.alloc (by omega) _) hgr (by simp; omega)
        clear hgr
        go_wp2_with fail
        go_roundw
        case rel => exact ⟨k + 1, gn, by omega, by go_num, g0, by omega, rfl, by rw [H3.out]; simp, by rw [H3.out]; simp, by rw [HSV.out, H2.out]; exact hown', hbw'⟩
        case measure => first | (simp [intOf]; done) | (simp [intOf]; omega)
      · have H2 := Lib.hid h3
        have H3 := Lib.hid h4
        have hne : (a + x == 0) = false := by simp; omega
        clear h3 h4 HST
        go_wp2_with (at_builtin; refine wpList_app1 rfl _ _ 23 rfl 3 .i64 8 Try.underlying23 infoI8 (w.heap.size + 1) ys 0 _ rfl _ rfl (by decide) ?own ?cell ?len ?base ?_)
        case own => exact Hown.out.alloc _
        try (case cell => simp [go_sem])
        case len => (have := Hlen.out; omega)
        case base => first | omega | (simp; omega)
        intro v' w' hown' hgr
        have hbw' : Below (w.heap.size + 1) w1 w' := OwnI.grown (Hown.out.alloc _) (hbw.alloc (by omega) _) hgr (by simp; omega)
        clear hgr
        go_wp2_with fail
        go_roundw
        case rel => exact ⟨k + 1, gn, by omega, by go_num, g0, by omega, rfl, val_int (by rw [H3.out]; simp only; omega), by rw [H3.out], by rw [HSV.out, H2.out]; exact hown', hbw'⟩
        case measure => first | (simp [intOf]; done) | (simp [intOf]; omega)
      · have H2 := Lib.hid h4
        have H3 := Lib.hid h5
        clear h4 h5 HST
        have e1 : gn + a + x - gn = a + x := by omega
        have e2 : (gn + a + x == gn) = false := by simp; omega
        have e3 : l < s + 1 := by omega
        have e4 : (gn + (a + x) == gn + a + x) = true := by simp; omega
        go_wp2_with (at_builtin; refine wpList_app1 rfl _ _ 23 rfl 3 .i64 8 Try.underlying23 infoI8 (w.heap.size + 1) ys (a + x) _ rfl _ rfl (by decide) ?own ?cell ?len ?base ?_)
        case own => exact Hown.out.alloc _
        try (case cell => simp [go_sem])
        case len => (have := Hlen.out; omega)
        case base => first | omega | (simp; omega)
        intro v' w' hown' hgr
        have hbw' : Below (w.heap.size + 1) w1 w' := OwnI.grown (Hown.out.alloc _) (hbw.alloc (by omega) _) hgr (by simp; omega)
        clear hgr
        go_wp2_with fail
        go_roundw
        case rel => exact ⟨k + 1, gn + (a + x), by omega, by go_num, by omega, by omega, val_int (by omega), val_int (by rw [H3.out]; simp only; omega), by rw [H3.out], by rw [HSV.out, H2.out]; exact hown', hbw'⟩
        case measure => first | (simp [intOf]; done) | (simp [intOf]; omega)
      · have H2 := Lib.hid h4
        have H3 := Lib.hid h5
        have hne : (a + x - r == 0) = false := by simp; omega
        clear h4 h5 HST
        have e1 : gn + a + x - gn = a + x := by omega
        have e2 : (gn + a + x == gn) = false := by simp; omega
        have e3 : l < s + 1 := by omega
        have e4 : (gn + r == gn + a + x) = false := by simp; omega
        go_wp2_with (at_builtin; refine wpList_app1 rfl _ _ 23 rfl 3 .i64 8 Try.underlying23 infoI8 (w.heap.size + 1) ys r _ rfl _ rfl (by decide) ?own ?cell ?len ?base ?_)
        case own => exact Hown.out.alloc _
        try (case cell => simp [go_sem])
        case len => (have := Hlen.out; omega)
        case base => first | omega | (simp; omega)
        intro v' w' hown' hgr
        have hbw' : Below (w.heap.size + 1) w1 w' := OwnI.grown (Hown.out.alloc _) (hbw.alloc (by omega) _) hgr (by simp; omega)
        clear hgr
        go_wp2_with fail
        go_roundw
        case rel => exact ⟨k + 1, gn + r, by omega, by go_num, by omega, by omega, val_int (by omega), val_int (by rw [H3.out]; simp only; omega), by rw [H3.out], by rw [HSV.out, H2.out]; exact hown', hbw'⟩
        case measure => first | (simp [intOf]; done) | (simp [intOf]; omega)
    · obtain rfl : k = n := by omega
      go_wp2_with fail
      go_ret
      exact ⟨_, rfl, Hown.out, hB⟩
end Go.Proofs.Ytlmnlffbbbcodaa.CurveS
