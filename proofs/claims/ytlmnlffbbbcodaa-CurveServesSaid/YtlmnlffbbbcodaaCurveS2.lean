/- Walks: curve.Serve, the reference's KServe. -/
import Derived.Test.YtlmnlffbbbcodaaCurveS1
import Derived.Test.YtlmnlffbbbcodaaMemT
namespace Go.Proofs.Ytlmnlffbbbcodaa.CurveS
open Go.RowKit

theorem infoI8 : (Try.prog.info? 3).map (fun i => (i.zero, i.size, i.bytes)) = some (some (.int .i64 0), 1, 8) := by kernel_rfl

set_option maxHeartbeats 1000000 in
theorem serve_err (l r : Int) (A : Option Addr) (n c : Nat) (zs : List Int) (w : World) (hr : RdI .i64 w A zs) (hn : zs.length = n) (hm : n ≤ 140737488355328) (h : (fit20 l && fit20 r && !badL zs) = false) :
    Calls Try.prog 27 #[.agg #[(.int .i64 l), (.int .i64 r)], .slice A n c] w fun e w' => e = .returned (.tuple #[.slice none 0 0, (.int .i64 2)]) ∧ Below w.heap.size w w' := by
  have HW : Hid (∀ W, Calls Try.prog 80 #[.agg #[(.int .i64 0), (.int .i64 0)], .agg #[(.int .i64 l), (.int .i64 r)]] W fun e w' => e = .returned ((.int .i64 (err2 (fit20 l && fit20 r)))) ∧ Below W.heap.size W w') := Lib.hid fun W => by have := cwrong_any 0 0 l r W; rwa [own4_r] at this
  have HB : Hid (∀ W, Below w.heap.size w W → Calls Try.prog 81 #[.slice A n c] W fun e w' => e = .returned (.bool (badL zs)) ∧ W = w') := Lib.hid fun W hW => bad_any A n c zs W (hr.below hW) hn hm
  generalize badL zs = bd at HB h
  generalize (fit20 l && fit20 r) = f at HW h
  clear hr hn hm
  cases f
  · simp only [err2, Bool.false_eq_true, if_false] at HW
    go_enter Try.func27, Try.ntmps27
    go_wp2_with fail
    refine (HW.out _).mono ?_
    rintro e w1 ⟨rfl, hb1⟩
    have c1_0 := fun o => Below.cell hb1 (p := ⟨w.heap.size, o, none⟩) (by first | omega | exact Below.size (by assumption) | (simp; done) | (simp; omega))
    have l1_0 : w.heap.size < w1.heap.size := Nat.lt_of_lt_of_le (by first | omega | exact Below.size (by assumption) | (simp; done) | (simp; omega)) (Below.size hb1)
    go_wp2_with fail
    go_ret2
    exact ⟨rfl, (by repeat (first | (with_reducible exact Below.refl _ _) | (with_reducible assumption) | (with_reducible refine Below.drew ?_) | (with_reducible refine below_drewN ?_ _) | ((with_reducible refine Below.setCell ?_ ?_ _); rotate_left; (next => first | omega | exact Nat.le_refl _ | (refine Below.size (B := ?_) ?_; rotate_left; assumption) | (simp; done) | (simp; omega))) | ((with_reducible refine Below.alloc ?_ ?_ _); rotate_left; (next => first | omega | exact Nat.le_refl _ | (refine Below.size (B := ?_) ?_; rotate_left; assumption) | (simp; done) | (simp; omega))) | ((with_reducible refine Below.trans (b := ?_) ?_ (Below.mono (B := ?_) ?_ ?_)); rotate_left 3; (next => (with_reducible assumption)); (next => first | omega | exact Nat.le_refl _ | (refine Below.size (B := ?_) ?_; rotate_left; assumption) | (simp; done) | (simp; omega))) | exact Below.refl _ _ | assumption | refine Below.drew ?_ | refine below_drewN ?_ _ | refine Below.alloc ?_ (by first | omega | exact Below.size (by assumption) | (simp; done) | (simp; omega)) _ | refine Below.setCell ?_ (by first | omega | exact Below.size (by assumption) | (simp; done) | (simp; omega)) _ | refine Below.trans ?_ (Below.mono (by assumption) (by first | omega | exact Below.size (by assumption) | (simp; done) | (simp; omega)))))⟩
  · obtain rfl : bd = true := by simpa using h
    simp only [err2, if_true] at HW
    go_enter Try.func27, Try.ntmps27
    go_wp2_with fail
    refine (HW.out _).mono ?_
    rintro e w1 ⟨rfl, hb1⟩
    have c1_0 := fun o => Below.cell hb1 (p := ⟨w.heap.size, o, none⟩) (by first | omega | exact Below.size (by assumption) | (simp; done) | (simp; omega))
    have l1_0 : w.heap.size < w1.heap.size := Nat.lt_of_lt_of_le (by first | omega | exact Below.size (by assumption) | (simp; done) | (simp; omega)) (Below.size hb1)
    have hB1 : Below w.heap.size w w1 := (by repeat (first | (with_reducible exact Below.refl _ _) | (with_reducible assumption) | (with_reducible refine Below.drew ?_) | (with_reducible refine below_drewN ?_ _) | ((with_reducible refine Below.setCell ?_ ?_ _); rotate_left; (next => first | omega | exact Nat.le_refl _ | (refine Below.size (B := ?_) ?_; rotate_left; assumption) | (simp; done) | (simp; omega))) | ((with_reducible refine Below.alloc ?_ ?_ _); rotate_left; (next => first | omega | exact Nat.le_refl _ | (refine Below.size (B := ?_) ?_; rotate_left; assumption) | (simp; done) | (simp; omega))) | ((with_reducible refine Below.trans (b := ?_) ?_ (Below.mono (B := ?_) ?_ ?_)); rotate_left 3; (next => (with_reducible assumption)); (next => first | omega | exact Nat.le_refl _ | (refine Below.size (B := ?_) ?_; rotate_left; assumption) | (simp; done) | (simp; omega))) | exact Below.refl _ _ | assumption | refine Below.drew ?_ | refine below_drewN ?_ _ | refine Below.alloc ?_ (by first | omega | exact Below.size (by assumption) | (simp; done) | (simp; omega)) _ | refine Below.setCell ?_ (by first | omega | exact Below.size (by assumption) | (simp; done) | (simp; omega)) _ | refine Below.trans ?_ (Below.mono (by assumption) (by first | omega | exact Below.size (by assumption) | (simp; done) | (simp; omega)))))
    go_wp2_with fail
    refine (HB.out _ hB1).mono ?_
    rintro e w2 ⟨rfl, rfl⟩
    go_wp2_with fail
    go_ret2
    exact ⟨rfl, (by repeat (first | (with_reducible exact Below.refl _ _) | (with_reducible assumption) | (with_reducible refine Below.drew ?_) | (with_reducible refine below_drewN ?_ _) | ((with_reducible refine Below.setCell ?_ ?_ _); rotate_left; (next => first | omega | exact Nat.le_refl _ | (refine Below.size (B := ?_) ?_; rotate_left; assumption) | (simp; done) | (simp; omega))) | ((with_reducible refine Below.alloc ?_ ?_ _); rotate_left; (next => first | omega | exact Nat.le_refl _ | (refine Below.size (B := ?_) ?_; rotate_left; assumption) | (simp; done) | (simp; omega))) | ((with_reducible refine Below.trans (b := ?_) ?_ (Below.mono (B := ?_) ?_ ?_)); rotate_left 3; (next => (with_reducible assumption)); (next => first | omega | exact Nat.le_refl _ | (refine Below.size (B := ?_) ?_; rotate_left; assumption) | (simp; done) | (simp; omega))) | exact Below.refl _ _ | assumption | refine Below.drew ?_ | refine below_drewN ?_ _ | refine Below.alloc ?_ (by first | omega | exact Below.size (by assumption) | (simp; done) | (simp; omega)) _ | refine Below.setCell ?_ (by first | omega | exact Below.size (by assumption) | (simp; done) | (simp; omega)) _ | refine Below.trans ?_ (Below.mono (by assumption) (by first | omega | exact Below.size (by assumption) | (simp; done) | (simp; omega)))))⟩

/-- One step, by its ways. -/
theorem step_ways {late rate : Int} {l : List Int} (k : Nat) :
    let a := (st late rate l k).1; let s := (st late rate l k).2; let x := l.getD k 0
    ((a + x ≤ 0 ∧ goes late rate l k = 0 ∧ st late rate l (k + 1) = (a + x, if a + x = 0 then 0 else s + 1)) ∨
    (0 < a + x ∧ s < late ∧ goes late rate l k = 0 ∧ st late rate l (k + 1) = (a + x, s + 1)) ∨
    (0 < a + x ∧ late ≤ s ∧ a + x ≤ rate ∧ goes late rate l k = a + x ∧ st late rate l (k + 1) = (0, 0)) ∨
    (0 < a + x ∧ late ≤ s ∧ rate < a + x ∧ goes late rate l k = rate ∧ st late rate l (k + 1) = (a + x - rate, s + 1))) := by
  intro a s x
  have e1 : goes late rate l k = if 0 < a + x then (if late ≤ s then min (a + x) rate else 0) else 0 := rfl
  have e2 : st late rate l (k + 1) = (a + x - goes late rate l k, if a + x - goes late rate l k = 0 then 0 else s + 1) := rfl
  rw [e2, e1]
  by_cases h1 : 0 < a + x
  · rw [if_pos h1]
    by_cases h2 : late ≤ s
    · rw [if_pos h2]
      by_cases h3 : a + x ≤ rate
      · right; right; left
        rw [Int.min_eq_left h3, Int.sub_self]
        exact ⟨h1, h2, h3, rfl, by simp⟩
      · right; right; right
        rw [Int.min_eq_right (by omega)]
        exact ⟨h1, h2, by omega, rfl, by rw [if_neg (by omega)]⟩
    · right; left
      rw [if_neg h2, Int.sub_zero]
      exact ⟨h1, by omega, rfl, by rw [if_neg (by omega)]⟩
  · left
    rw [if_neg h1, Int.sub_zero]
    exact ⟨by omega, rfl, rfl⟩

set_option maxRecDepth 100000 in
set_option maxHeartbeats 2000000 in
theorem serve_ok (l r : Int) (A : Option Addr) (n c : Nat) (zs : List Int) (w : World) (hr : RdI .i64 w A zs) (hn : zs.length = n) (hl : fit20 l = true) (hr1 : fit20 r = true) (hbad : badL zs = false) :
    Calls Try.prog 27 #[.agg #[(.int .i64 l), (.int .i64 r)], .slice A n c] w fun e w' => ∃ v, e = .returned (.tuple #[v, (.int .i64 0)]) ∧ OwnI w' (w.heap.size + 1) 3 .i64 v (served l r zs n) ∧ Below w.heap.size w w' := by
  obtain ⟨gl, ga⟩ := good_all hbad
  have hnb : n ≤ 400 := by omega
  have HW : Hid (∀ W, Calls Try.prog 80 #[.agg #[(.int .i64 0), (.int .i64 0)], .agg #[(.int .i64 l), (.int .i64 r)]] W fun e w' => e = .returned ((.int .i64 0)) ∧ Below W.heap.size W w') := Lib.hid fun W => by have := cwrong_any 0 0 l r W; rw [own4_r, hl, hr1] at this; exact this
  have HB : Hid (∀ W, Below w.heap.size w W → Calls Try.prog 81 #[.slice A n c] W fun e w' => e = .returned (.bool false) ∧ W = w') := Lib.hid fun W hW => hbad ▸ bad_any A n c zs W (hr.below hW) hn (by omega)
  have hl2 := fit20_true hl
  have hr2 := fit20_true hr1
  have HG := Lib.hid ga
  have Hst : Hid (∀ k : Nat, 0 ≤ (st l r zs k).1 ∧ (st l r zs k).1 ≤ 1048576 * (k : Int) ∧ 0 ≤ (st l r zs k).2 ∧ (st l r zs k).2 ≤ k) := Lib.hid fun k => by
    have h1 := st_bd (late := l) (rate := r) ga hr2.1 k
    have h2 := S_bd ga k
    omega
  obtain ⟨l0, l1⟩ := hl2
  obtain ⟨r0, r1⟩ := hr2
  have Hn := Lib.hid hn
  have Hr := Lib.hid hr
  clear hn hr hr1 hbad gl ga hl
  go_enter Try.func27, Try.ntmps27
  go_wp2_with fail
  refine (HW.out _).mono ?_
  rintro e w1 ⟨rfl, hb1⟩
  have c1_0 := fun o => Below.cell hb1 (p := ⟨w.heap.size, o, none⟩) (by first | omega | exact Below.size (by assumption) | (simp; done) | (simp; omega))
  have l1_0 : w.heap.size < w1.heap.size := Nat.lt_of_lt_of_le (by first | omega | exact Below.size (by assumption) | (simp; done) | (simp; omega)) (Below.size hb1)
  have hB1 : Below w.heap.size w w1 := (by repeat (first | (with_reducible exact Below.refl _ _) | (with_reducible assumption) | (with_reducible refine Below.drew ?_) | (with_reducible refine below_drewN ?_ _) | ((with_reducible refine Below.setCell ?_ ?_ _); rotate_left; (next => first | omega | exact Nat.le_refl _ | (refine Below.size (B := ?_) ?_; rotate_left; assumption) | (simp; done) | (simp; omega))) | ((with_reducible refine Below.alloc ?_ ?_ _); rotate_left; (next => first | omega | exact Nat.le_refl _ | (refine Below.size (B := ?_) ?_; rotate_left; assumption) | (simp; done) | (simp; omega))) | ((with_reducible refine Below.trans (b := ?_) ?_ (Below.mono (B := ?_) ?_ ?_)); rotate_left 3; (next => (with_reducible assumption)); (next => first | omega | exact Nat.le_refl _ | (refine Below.size (B := ?_) ?_; rotate_left; assumption) | (simp; done) | (simp; omega))) | exact Below.refl _ _ | assumption | refine Below.drew ?_ | refine below_drewN ?_ _ | refine Below.alloc ?_ (by first | omega | exact Below.size (by assumption) | (simp; done) | (simp; omega)) _ | refine Below.setCell ?_ (by first | omega | exact Below.size (by assumption) | (simp; done) | (simp; omega)) _ | refine Below.trans ?_ (Below.mono (by assumption) (by first | omega | exact Below.size (by assumption) | (simp; done) | (simp; omega)))))
  have hs1 : w.heap.size + 1 ≤ w1.heap.size := l1_0
  go_wp2_with fail
  refine (HB.out _ hB1).mono ?_
  rintro e w2 ⟨rfl, rfl⟩
  go_wp2_with fail
  go_loopw [6, 7, 8, 22] (fun a s v i W => ∃ k : Nat, k ≤ n ∧ i = .int .i64 k ∧ a = .int .i64 (st l r zs k).1 ∧ s = .int .i64 (st l r zs k).2 ∧ OwnI W (w.heap.size + 1) 3 .i64 v (served l r zs k) ∧ Below (w.heap.size + 1) w1 W) (fun _ _ _ i _ => n - (intOf i).toNat)
  case atStart => exact ⟨0, by omega, rfl, rfl, rfl, OwnI.nil _ _ _ _, Below.refl _ _⟩
  case round =>
    obtain ⟨k, hk, rfl, rfl, rfl, hown, hbw⟩ := hrel
    have Hown := Lib.hid hown; clear hown
    have hB : Below w.heap.size w wr := hB1.trans (hbw.mono (by omega))
    have hsz := hbw.size
    have d1 := fun o => hbw.cell (p := ⟨w.heap.size, o, none⟩) (by simp)
    obtain ⟨q0, q1, q2, q3⟩ := Hst.out k
    by_cases hlt : k < n
    · have hl : k < zs.length := by have := Hn.out; omega
      obtain ⟨bb, off, rfl, hbb, hbl, hc⟩ := Hr.out.atb hB hl
      obtain ⟨x0, x1⟩ := HG.out _ (List.getElem_mem hl)
      have HST := Lib.hid (step_ways (late := l) (rate := r) (l := zs) k)
      simp only [getD_of hl] at HST
      have HSV := Lib.hid (served_succ l r zs k)
      have Hlen : Hid ((served l r zs k).length ≤ 400) := Lib.hid (by rw [served_len]; omega)
      generalize zs[k] = x at hc x0 x1 HST
      generalize (st l r zs k).1 = a at q0 q1 HST ⊢
      generalize (st l r zs k).2 = s at q2 q3 HST ⊢
      generalize served l r zs k = ys at Hown HSV Hlen
      generalize goes l r zs k = g at HST HSV
      rcases HST.out with ⟨h1, h2, h3⟩ | ⟨h1, h2, h3, h4⟩ | ⟨h1, h2, h3, h4, h5⟩ | ⟨h1, h2, h3, h4, h5⟩
      · obtain rfl : a = 0 := by omega
        obtain rfl : x = 0 := by omega
        have H2 := Lib.hid h2
        have H3 := Lib.hid h3
        clear h1 h2 h3 HST
        go_wp2_with (at_builtin; refine wpList_app1 rfl _ _ 23 rfl 3 .i64 8 Try.underlying23 infoI8 (w.heap.size + 1) ys 0 _ rfl _ rfl (by decide) ?own ?cell ?len ?base ?_)
        case own => exact Hown.out.alloc _
        try (case cell => simp [go_sem])
        case len => (have := Hlen.out; omega)
        case base => first | omega | (simp; omega)
        intro v' w' hown' hgr
        have hbw' : Below (w.heap.size + 1) w1 w' := OwnI.grown (Hown.out.alloc _) (hbw.alloc (by omega) _) hgr (by simp; omega)
        clear hgr
        go_wp2_with fail
        go_roundw
        case rel => exact ⟨k + 1, by omega, by go_num, by rw [H3.out]; simp, by rw [H3.out]; simp, by rw [HSV.out, H2.out]; exact hown', hbw'⟩
        case measure => first | (simp [intOf]; done) | (simp [intOf]; omega)
      · have H2 := Lib.hid h3
        have H3 := Lib.hid h4
        have hne : (a + x == 0) = false := by simp; omega
        clear h3 h4 HST
        go_wp2_with (at_builtin; refine wpList_app1 rfl _ _ 23 rfl 3 .i64 8 Try.underlying23 infoI8 (w.heap.size + 1) ys 0 _ rfl _ rfl (by decide) ?own ?cell ?len ?base ?_)
        case own => exact Hown.out.alloc _
        try (case cell => simp [go_sem])
        case len => (have := Hlen.out; omega)
        case base => first | omega | (simp; omega)
        intro v' w' hown' hgr
        have hbw' : Below (w.heap.size + 1) w1 w' := OwnI.grown (Hown.out.alloc _) (hbw.alloc (by omega) _) hgr (by simp; omega)
        clear hgr
        go_wp2_with fail
        go_roundw
        case rel => exact ⟨k + 1, by omega, by go_num, by rw [H3.out], by rw [H3.out], by rw [HSV.out, H2.out]; exact hown', hbw'⟩
        case measure => first | (simp [intOf]; done) | (simp [intOf]; omega)
      · have H2 := Lib.hid h4
        have H3 := Lib.hid h5
        clear h4 h5 HST
        go_wp2_with (at_builtin; refine wpList_app1 rfl _ _ 23 rfl 3 .i64 8 Try.underlying23 infoI8 (w.heap.size + 1) ys (a + x) _ rfl _ rfl (by decide) ?own ?cell ?len ?base ?_)
        case own => exact Hown.out.alloc _
        try (case cell => simp [go_sem])
        case len => (have := Hlen.out; omega)
        case base => first | omega | (simp; omega)
        intro v' w' hown' hgr
        have hbw' : Below (w.heap.size + 1) w1 w' := OwnI.grown (Hown.out.alloc _) (hbw.alloc (by omega) _) hgr (by simp; omega)
        clear hgr
        go_wp2_with fail
        go_roundw
        case rel => exact ⟨k + 1, by omega, by go_num, by rw [H3.out], by rw [H3.out], by rw [HSV.out, H2.out]; exact hown', hbw'⟩
        case measure => first | (simp [intOf]; done) | (simp [intOf]; omega)
      · have H2 := Lib.hid h4
        have H3 := Lib.hid h5
        have hne : (a + x - r == 0) = false := by simp; omega
        clear h4 h5 HST
        go_wp2_with (at_builtin; refine wpList_app1 rfl _ _ 23 rfl 3 .i64 8 Try.underlying23 infoI8 (w.heap.size + 1) ys r _ rfl _ rfl (by decide) ?own ?cell ?len ?base ?_)
        case own => exact Hown.out.alloc _
        try (case cell => simp [go_sem])
        case len => (have := Hlen.out; omega)
        case base => first | omega | (simp; omega)
        intro v' w' hown' hgr
        have hbw' : Below (w.heap.size + 1) w1 w' := OwnI.grown (Hown.out.alloc _) (hbw.alloc (by omega) _) hgr (by simp; omega)
        clear hgr
        go_wp2_with fail
        go_roundw
        case rel => exact ⟨k + 1, by omega, by go_num, by rw [H3.out], by rw [H3.out], by rw [HSV.out, H2.out]; exact hown', hbw'⟩
        case measure => first | (simp [intOf]; done) | (simp [intOf]; omega)
    · obtain rfl : k = n := by omega
      go_wp2_with fail
      go_ret2
      exact ⟨_, rfl, Hown.out, hB⟩
end Go.Proofs.Ytlmnlffbbbcodaa.CurveS
