/- Walks of package lindley. -/
import Derived.Test.YtlmnlffbbbcodaaLindleyM
import Derived.Outline
import Derived.BigQuiet
import Derived.Deep.QuietTactic
namespace Go.Proofs.Ytlmnlffbbbcodaa.Lindley
open Go.RowKit

theorem infoI : (Try.prog.info? 3).map (fun i => (i.zero, i.size, i.bytes)) = some (some (.int .i64 0), 1, 8) := by kernel_rfl

theorem get_hid (l : List (Int × Int)) (k : Nat) (h : k < l.length) : ∃ x y, Hid (l[k] = (x, y)) := ⟨_, _, Lib.hid rfl⟩

/-- A packet's two cells in a later world. -/
theorem at2w {w wr : World} {A : Option Addr} {l : List (Int × Int)} (hr : Rd w A (l.flatMap c2)) (hb : Below w.heap.size w wr) {k : Nat} (hk : k < l.length) {x y : Int} (hxy : l[k] = (x, y)) :
    ∃ b off, A = some ⟨b, off, none⟩ ∧ b < wr.heap.size ∧ wr.cell? ⟨b, off + k * 2, none⟩ = some (.int .i64 x) ∧ wr.cell? ⟨b, off + k * 2 + 1, none⟩ = some (.int .i64 y) := by
  obtain ⟨b, off, hA, hbl, h0, h1⟩ := hr.at2 hk
  rw [hxy] at h0 h1
  exact ⟨b, off, hA, Nat.lt_of_lt_of_le hbl hb.size, (hb.cell (p := ⟨b, _, none⟩) hbl).trans h0, (hb.cell (p := ⟨b, _, none⟩) hbl).trans h1⟩

set_option maxHeartbeats 1000000 in
theorem wrong_any (A : Option Addr) (n c : Nat) (l : List (Int × Int)) (w : World) (hr : Rd w A (l.flatMap c2)) (hn : l.length = n) (hm : n ≤ 140737488355328) :
    Calls Try.prog 19 #[.slice A n c] w fun e w' => e = .returned (.int .i64 (wrongX l)) ∧ Below w.heap.size w w' := by
  have Hn := Lib.hid hn; clear hn
  by_cases hbig : 400 < n
  · go_enter Try.func19, Try.ntmps19
    go_wp2
    go_ret
    exact ⟨ret_int (by have := Hn.out; rw [wrongX, if_pos (by omega)]), (by repeat (first | exact Below.refl _ _ | assumption | refine Below.drew ?_ | refine below_drewN ?_ _ | refine Below.alloc ?_ (by first | omega | exact Below.size (by assumption) | (simp; done) | (simp; omega)) _ | refine Below.setCell ?_ (by first | omega | exact Below.size (by assumption) | (simp; done) | (simp; omega)) _ | refine Below.trans ?_ (Below.mono (by assumption) (by first | omega | exact Below.size (by assumption) | (simp; done) | (simp; omega)))))⟩
  go_enter Try.func19, Try.ntmps19
  go_wp2
  go_loopw [10] (fun i wr => ∃ k : Nat, k ≤ n ∧ i = .int .i64 k ∧ Below w.heap.size w wr ∧ wrongX l = wrongFrom (prev l k) (l.drop k)) (fun i _ => n - (intOf i).toNat)
  case atStart => exact ⟨0, by omega, rfl, (by repeat (first | exact Below.refl _ _ | assumption | refine Below.drew ?_ | refine below_drewN ?_ _ | refine Below.alloc ?_ (by first | omega | exact Below.size (by assumption) | (simp; done) | (simp; omega)) _ | refine Below.setCell ?_ (by first | omega | exact Below.size (by assumption) | (simp; done) | (simp; omega)) _ | refine Below.trans ?_ (Below.mono (by assumption) (by first | omega | exact Below.size (by assumption) | (simp; done) | (simp; omega))))), by have := Hn.out; rw [wrongX, if_neg (by omega)]; rfl⟩
  case round =>
    obtain ⟨k, hk, rfl, hbw, hf⟩ := hrel
    have hsz := hbw.size
    have Hf := Lib.hid hf; clear hf
    by_cases hlt : k < n
    · have hl : k < l.length := by have := Hn.out; omega
      have Hst := Lib.hid (wrong_step hl (prev l k))
      obtain ⟨x, y, Hxy⟩ := get_hid l k hl
      obtain ⟨b, off, rfl, hbl, hc0, hc1⟩ := at2w hr hbw hl Hxy.out
      by_cases hbad : badS l[k] = true
      · have Hb : Hid (wrongX l = 2) := Lib.hid (by rw [Hf.out, Hst.out, if_pos hbad])
        rw [Hxy.out] at hbad
        simp only [badS, Bool.or_eq_true, decide_eq_true_eq] at hbad
        have hbad' : (x < 0) ∨ (0 ≤ x ∧ 1048576 < x) ∨ (0 ≤ x ∧ x ≤ 1048576 ∧ y < 0) ∨ (0 ≤ x ∧ x ≤ 1048576 ∧ 0 ≤ y ∧ 1048576 < y) := by omega
        clear hbad
        rcases hbad' with h1 | ⟨h1, h2⟩ | ⟨h1, h2, h3⟩ | ⟨h1, h2, h3, h4⟩
        all_goals
          go_wp2
          go_ret
          exact ⟨ret_int (by rw [Hb.out]), (by repeat (first | exact Below.refl _ _ | assumption | refine Below.drew ?_ | refine below_drewN ?_ _ | refine Below.alloc ?_ (by first | omega | exact Below.size (by assumption) | (simp; done) | (simp; omega)) _ | refine Below.setCell ?_ (by first | omega | exact Below.size (by assumption) | (simp; done) | (simp; omega)) _ | refine Below.trans ?_ (Below.mono (by assumption) (by first | omega | exact Below.size (by assumption) | (simp; done) | (simp; omega)))))⟩
      · have hbad' : badS l[k] = false := by simpa using hbad
        have hgood := badS_false hbad'
        rw [Hxy.out] at hgood
        obtain ⟨hx0, hx1, hy0, hy1⟩ := hgood
        simp only at hx0 hx1 hy0 hy1
        have Hst' := Lib.hid Hst.out
        rw [if_neg hbad, Hxy.out] at Hst'
        clear hbad hbad' Hst
        cases k with
        | zero =>
          simp only [Nat.zero_mul, Nat.add_zero] at hc0 hc1
          go_wp2
          go_quiet (fail)
          go_wp2
          go_roundw
          case rel => exact ⟨1, by omega, rfl, (by repeat (first | exact Below.refl _ _ | assumption | refine Below.drew ?_ | refine below_drewN ?_ _ | refine Below.alloc ?_ (by first | omega | exact Below.size (by assumption) | (simp; done) | (simp; omega)) _ | refine Below.setCell ?_ (by first | omega | exact Below.size (by assumption) | (simp; done) | (simp; omega)) _ | refine Below.trans ?_ (Below.mono (by assumption) (by first | omega | exact Below.size (by assumption) | (simp; done) | (simp; omega))))), by
            rw [Hf.out, Hst'.out, if_neg (by simp only [prev]; omega), prev, getD_eq hl, Hxy.out]⟩
          case measure => simp [intOf]; omega
        | succ j =>
          have hl0 : j < l.length := by omega
          obtain ⟨x0, y0, Hxy0⟩ := get_hid l j hl0
          obtain ⟨b', off', hA', _, hd0, hd1⟩ := at2w hr hbw hl0 Hxy0.out
          cases hA'
          by_cases hlast : x < x0
          · go_wp2
            go_quiet (fail)
            go_wp2
            go_ret
            exact ⟨ret_int (by rw [Hf.out, Hst'.out, if_pos (by rw [prev, getD_eq hl0, Hxy0.out]; exact hlast)]), (by repeat (first | exact Below.refl _ _ | assumption | refine Below.drew ?_ | refine below_drewN ?_ _ | refine Below.alloc ?_ (by first | omega | exact Below.size (by assumption) | (simp; done) | (simp; omega)) _ | refine Below.setCell ?_ (by first | omega | exact Below.size (by assumption) | (simp; done) | (simp; omega)) _ | refine Below.trans ?_ (Below.mono (by assumption) (by first | omega | exact Below.size (by assumption) | (simp; done) | (simp; omega)))))⟩
          · go_wp2
            go_quiet (fail)
            go_wp2
            go_roundw
            case rel => exact ⟨j + 1 + 1, by omega, by go_num, (by repeat (first | exact Below.refl _ _ | assumption | refine Below.drew ?_ | refine below_drewN ?_ _ | refine Below.alloc ?_ (by first | omega | exact Below.size (by assumption) | (simp; done) | (simp; omega)) _ | refine Below.setCell ?_ (by first | omega | exact Below.size (by assumption) | (simp; done) | (simp; omega)) _ | refine Below.trans ?_ (Below.mono (by assumption) (by first | omega | exact Below.size (by assumption) | (simp; done) | (simp; omega))))), by
              rw [Hf.out, Hst'.out, if_neg (by rw [prev, getD_eq hl0, Hxy0.out]; simp only; omega), prev, getD_eq hl, Hxy.out]⟩
            case measure => simp [intOf]; omega
    · go_wp2
      go_ret
      exact ⟨ret_int (by rw [Hf.out, show k = l.length from by have := Hn.out; omega, wrong_end]), (by repeat (first | exact Below.refl _ _ | assumption | refine Below.drew ?_ | refine below_drewN ?_ _ | refine Below.alloc ?_ (by first | omega | exact Below.size (by assumption) | (simp; done) | (simp; omega)) _ | refine Below.setCell ?_ (by first | omega | exact Below.size (by assumption) | (simp; done) | (simp; omega)) _ | refine Below.trans ?_ (Below.mono (by assumption) (by first | omega | exact Below.size (by assumption) | (simp; done) | (simp; omega)))))⟩

set_option maxHeartbeats 1000000 in
theorem waits_err (A : Option Addr) (n c : Nat) (l : List (Int × Int)) (w : World) (hr : Rd w A (l.flatMap c2)) (hn : l.length = n) (hm : n ≤ 140737488355328) (h : (wrongX l == 0) = false) :
    Calls Try.prog 15 #[.slice A n c] w fun e w' => e = .returned (.tuple #[.slice none 0 0, .int .i64 (wrongX l)]) ∧ Below w.heap.size w w' := by
  have H := Lib.hid (wrong_any A n c l w hr hn hm)
  clear hr hn hm
  generalize wrongX l = x at H h ⊢
  have h' : (x != 0) = true := by rw [bne, h]; rfl
  go_enter Try.func15, Try.ntmps15
  go_wp2_with fail
  refine H.out.mono ?_
  rintro e w1 ⟨rfl, hb⟩
  go_wp2_with fail
  go_ret2
  exact ⟨rfl, (by repeat (first | exact Below.refl _ _ | assumption | refine Below.drew ?_ | refine below_drewN ?_ _ | refine Below.alloc ?_ (by first | omega | exact Below.size (by assumption) | (simp; done) | (simp; omega)) _ | refine Below.setCell ?_ (by first | omega | exact Below.size (by assumption) | (simp; done) | (simp; omega)) _ | refine Below.trans ?_ (Below.mono (by assumption) (by first | omega | exact Below.size (by assumption) | (simp; done) | (simp; omega)))))⟩

set_option maxHeartbeats 1000000 in
theorem waits_ok (A : Option Addr) (n c : Nat) (l : List (Int × Int)) (w : World) (hr : Rd w A (l.flatMap c2)) (hn : l.length = n) (g : Good l) (h : wrongX l = 0) :
    Calls Try.prog 15 #[.slice A n c] w fun e w' => ∃ A' c', e = .returned (.tuple #[.slice A' n c', .int .i64 0]) ∧ RdI .i64 w' A' (waits 0 l) ∧ Below w.heap.size w w' := by
  have hnb : n ≤ 400 := by have := g.len; omega
  have H := Lib.hid (wrong_any A n c l w hr hn (by omega))
  rw [h] at H
  have Hn := Lib.hid hn; clear hn h
  go_enter Try.func15, Try.ntmps15
  go_wp2_with fail
  refine H.out.mono ?_
  rintro e w1 ⟨rfl, hb⟩
  go_wp2_with fail
  go_loopw [5, 6, 17] (fun v f i wr => ∃ (k : Nat), k ≤ n ∧ i = .int .i64 k ∧ f = .int .i64 (freeAt l k) ∧ OwnI wr w.heap.size 3 .i64 v ((waits 0 l).take k) ∧ Below w.heap.size w wr) (fun _ _ i _ => n - (intOf i).toNat)
  case atStart => exact ⟨0, by omega, rfl, rfl, OwnI.nil _ _ _ _, (by repeat (first | exact Below.refl _ _ | assumption | refine Below.drew ?_ | refine below_drewN ?_ _ | refine Below.alloc ?_ (by first | omega | exact Below.size (by assumption) | (simp; done) | (simp; omega)) _ | refine Below.setCell ?_ (by first | omega | exact Below.size (by assumption) | (simp; done) | (simp; omega)) _ | refine Below.trans ?_ (Below.mono (by assumption) (by first | omega | exact Below.size (by assumption) | (simp; done) | (simp; omega)))))⟩
  case round =>
    obtain ⟨k, hk, rfl, rfl, hown, hbw⟩ := hrel
    have hsz := hbw.size
    by_cases hlt : k < n
    · have hl : k < l.length := by have := Hn.out; omega
      obtain ⟨x, y, Hxy⟩ := get_hid l k hl
      obtain ⟨b, off, rfl, hbl, hc0, hc1⟩ := at2w hr hbw hl Hxy.out
      have hg := g.ok k hl
      rw [Hxy.out] at hg
      obtain ⟨hx0, hx1, hy0, hy1⟩ := hg
      simp only at hx0 hx1 hy0 hy1
      obtain ⟨hf0, hf1⟩ := freeAt_bd g k (by omega)
      have Hfs : Hid (freeAt l (k + 1) = max (freeAt l k) x + y) := Lib.hid (by rw [freeAt, getD_eq hl, Hxy.out])
      have Hwt : Hid ((waits 0 l).take (k + 1) = (waits 0 l).take k ++ [max (freeAt l k) x - x]) := by
        apply Lib.hid
        have h1 := waits_get l k hl
        have hkl : k < (waits 0 l).length := by rw [waits_length]; exact hl
        rw [List.getElem?_eq_getElem hkl, Option.some.injEq] at h1
        rw [List.take_succ_eq_append_getElem hkl, h1, Hxy.out]
      have Hlen : Hid (((waits 0 l).take k).length ≤ 400) := Lib.hid (by rw [List.length_take, waits_length]; omega)
      have hf2 : freeAt l k ≤ 1048576 * 401 := by omega
      clear hf1
      generalize freeAt l k = f at hf0 hf2 Hfs Hwt ⊢
      generalize (waits 0 l).take k = ys at hown Hwt Hlen
      by_cases hmx : f < x
      · have Hmx : Hid (max f x = x) := Lib.hid (Int.max_eq_right (by omega))
        rw [Hmx.out] at Hfs Hwt
        rw [Int.sub_self] at Hwt
        go_wp2_with (at_builtin; refine wpList_app1 rfl _ _ 23 rfl 3 .i64 8 Try.underlying23 infoI w.heap.size ys 0 _ rfl _ rfl (by decide) ?own ?cell ?len ?base ?_)
        case own => exact (hown.alloc _).alloc _
        try (case cell => simp [go_sem])
        case len => (have := Hlen.out; omega)
        case base => first | omega | (simp; omega)
        intro v' w' hown' hgr
        have hbw' : Below w.heap.size w w' := OwnI.grown ((hown.alloc _).alloc _) (by repeat (first | exact Below.refl _ _ | assumption | refine Below.drew ?_ | refine below_drewN ?_ _ | refine Below.alloc ?_ (by first | omega | exact Below.size (by assumption) | (simp; done) | (simp; omega)) _ | refine Below.setCell ?_ (by first | omega | exact Below.size (by assumption) | (simp; done) | (simp; omega)) _ | refine Below.trans ?_ (Below.mono (by assumption) (by first | omega | exact Below.size (by assumption) | (simp; done) | (simp; omega))))) hgr (by simp; omega)
        have hnc := hown.newcell hgr (Nat.le_refl _) (by simp; omega)
        clear hgr hown
        go_wp2_with fail
        go_roundw
        case rel => exact ⟨k + 1, by omega, by go_num, by rw [Hfs.out], by rw [Hwt.out]; exact hown', hbw'⟩
        case measure => simp [intOf]; omega
      · have Hmx : Hid (max f x = f) := Lib.hid (Int.max_eq_left (by omega))
        rw [Hmx.out] at Hfs Hwt
        go_wp2_with (at_builtin; refine wpList_app1 rfl _ _ 23 rfl 3 .i64 8 Try.underlying23 infoI w.heap.size ys (f - x) _ rfl _ rfl (by decide) ?own ?cell ?len ?base ?_)
        case own => exact (hown.alloc _).alloc _
        try (case cell => simp [go_sem])
        case len => (have := Hlen.out; omega)
        case base => first | omega | (simp; omega)
        intro v' w' hown' hgr
        have hbw' : Below w.heap.size w w' := OwnI.grown ((hown.alloc _).alloc _) (by repeat (first | exact Below.refl _ _ | assumption | refine Below.drew ?_ | refine below_drewN ?_ _ | refine Below.alloc ?_ (by first | omega | exact Below.size (by assumption) | (simp; done) | (simp; omega)) _ | refine Below.setCell ?_ (by first | omega | exact Below.size (by assumption) | (simp; done) | (simp; omega)) _ | refine Below.trans ?_ (Below.mono (by assumption) (by first | omega | exact Below.size (by assumption) | (simp; done) | (simp; omega))))) hgr (by simp; omega)
        have hnc := hown.newcell hgr (Nat.le_refl _) (by simp; omega)
        clear hgr hown
        go_wp2_with fail
        go_roundw
        case rel => exact ⟨k + 1, by omega, by go_num, by rw [Hfs.out], by rw [Hwt.out]; exact hown', hbw'⟩
        case measure => simp [intOf]; omega
    · go_wp2
      obtain ⟨A', c', rfl, hlc, hrd, _⟩ := hown.form
      have hfull : (waits 0 l).take k = waits 0 l := List.take_of_length_le (by rw [waits_length]; have := Hn.out; omega)
      have hlen : ((waits 0 l).take k).length = n := by rw [hfull, waits_length]; exact Hn.out
      go_ret2
      exact ⟨A', c', by rw [hlen]; rfl, by rw [← hfull]; exact hrd, hbw⟩

set_option maxHeartbeats 1000000 in
theorem there_err (A : Option Addr) (n c : Nat) (l : List (Int × Int)) (t : Int) (w : World) (hr : Rd w A (l.flatMap c2)) (hn : l.length = n) (hm : n ≤ 140737488355328) (h : (wrongX l == 0) = false) :
    Calls Try.prog 16 #[.slice A n c, .int .i64 t] w fun e w' => e = .returned (.tuple #[.int .i64 0, .int .i64 (wrongX l)]) ∧ Below w.heap.size w w' := by
  have H := Lib.hid (waits_err A n c l w hr hn hm h)
  clear hr hn hm
  generalize wrongX l = x at H h ⊢
  have h' : (x != 0) = true := by rw [bne, h]; rfl
  go_enter Try.func16, Try.ntmps16
  go_wp2_with fail
  refine H.out.mono ?_
  rintro e w1 ⟨rfl, hb⟩
  go_wp2_with fail
  go_ret2
  exact ⟨rfl, (by repeat (first | exact Below.refl _ _ | assumption | refine Below.drew ?_ | refine below_drewN ?_ _ | refine Below.alloc ?_ (by first | omega | exact Below.size (by assumption) | (simp; done) | (simp; omega)) _ | refine Below.setCell ?_ (by first | omega | exact Below.size (by assumption) | (simp; done) | (simp; omega)) _ | refine Below.trans ?_ (Below.mono (by assumption) (by first | omega | exact Below.size (by assumption) | (simp; done) | (simp; omega)))))⟩

set_option maxHeartbeats 2000000 in
theorem there_ok (A : Option Addr) (n c : Nat) (l : List (Int × Int)) (t : Int) (w : World) (hr : Rd w A (l.flatMap c2)) (hn : l.length = n) (g : Good l) (h : wrongX l = 0) :
    Calls Try.prog 16 #[.slice A n c, .int .i64 t] w fun e w' => e = .returned (.tuple #[.int .i64 (there l t n), .int .i64 0]) ∧ Below w.heap.size w w' := by
  have hnb : n ≤ 400 := by have := g.len; omega
  have H := Lib.hid (waits_ok A n c l w hr hn g h)
  have Hn := Lib.hid hn; clear hn h
  go_enter Try.func16, Try.ntmps16
  go_wp2_with fail
  refine H.out.mono ?_
  rintro e w1 ⟨A', c', rfl, hrw, hb⟩
  go_wp2_with fail
  go_loopw [8, 21] (fun v i wr => ∃ (k : Nat), k ≤ n ∧ i = .int .i64 k ∧ v = .int .i64 (there l t k) ∧ Below w1.heap.size w1 wr) (fun _ i _ => n - (intOf i).toNat)
  case atStart => exact ⟨0, by omega, rfl, rfl, Below.refl _ _⟩
  case round =>
    obtain ⟨k, hk, rfl, rfl, hbw⟩ := hrel
    have hsz := hbw.size
    have hb2 : Below w.heap.size w wr := hb.trans (hbw.mono hb.size)
    obtain ⟨ht0, ht1⟩ := there_bd l t k
    by_cases hlt : k < n
    · have hl : k < l.length := by have := Hn.out; omega
      obtain ⟨x, y, Hxy⟩ := get_hid l k hl
      obtain ⟨b, off, rfl, hbl, hc0, hc1⟩ := at2w hr hb2 hl Hxy.out
      have hg := g.ok k hl
      rw [Hxy.out] at hg
      obtain ⟨hx0, hx1, hy0, hy1⟩ := hg
      simp only at hx0 hx1 hy0 hy1
      have Hw := Lib.hid (xwait_eq g k hl)
      rw [Hxy.out] at Hw
      have hf1 := (freeAt_bd g k (by omega)).2
      have hf0 := (freeAt_bd g k (by omega)).1
      have hkl : k < (waits 0 l).length := by rw [waits_length]; exact hl
      obtain ⟨bw, ow, hA', hcw⟩ := (hrw.below hbw).at_ hkl
      have hwk : (waits 0 l)[k] = xwait l k := by
        have h1 := waits_get l k hl
        rw [List.getElem?_eq_getElem hkl, Option.some.injEq, Hxy.out] at h1
        rw [Hw.out, h1]
      rw [hwk] at hcw
      have hq0 : 0 ≤ xwait l k := by have := Hw.out; simp only at this; omega
      have hq1 : xwait l k ≤ 1048576 * 402 := by have := Hw.out; simp only at this; omega
      have hbwl := lt_of_cell hcw
      subst hA'
      have Hst : Hid (there l t (k + 1) = there l t k + (if x ≤ t ∧ t < x + xwait l k + y then 1 else 0)) := Lib.hid (by rw [there, getD_eq hl, Hxy.out])
      clear hf0 hf1 Hw hwk hkl
      generalize xwait l k = q at hcw hq0 hq1 Hst
      generalize there l t k = m at ht0 ht1 Hst ⊢
      by_cases h1 : x ≤ t
      · by_cases h2 : t < x + q + y
        · go_wp2
          go_quiet (fail)
          go_wp2
          go_roundw
          case rel => exact ⟨k + 1, by omega, by go_num, by rw [Hst.out, if_pos ⟨h1, h2⟩], (by repeat (first | exact Below.refl _ _ | assumption | refine Below.drew ?_ | refine below_drewN ?_ _ | refine Below.alloc ?_ (by first | omega | exact Below.size (by assumption) | (simp; done) | (simp; omega)) _ | refine Below.setCell ?_ (by first | omega | exact Below.size (by assumption) | (simp; done) | (simp; omega)) _ | refine Below.trans ?_ (Below.mono (by assumption) (by first | omega | exact Below.size (by assumption) | (simp; done) | (simp; omega)))))⟩
          case measure => simp [intOf]; omega
        · go_wp2
          go_quiet (fail)
          go_wp2
          go_roundw
          case rel => exact ⟨k + 1, by omega, by go_num, by rw [Hst.out, if_neg (by omega)]; simp, (by repeat (first | exact Below.refl _ _ | assumption | refine Below.drew ?_ | refine below_drewN ?_ _ | refine Below.alloc ?_ (by first | omega | exact Below.size (by assumption) | (simp; done) | (simp; omega)) _ | refine Below.setCell ?_ (by first | omega | exact Below.size (by assumption) | (simp; done) | (simp; omega)) _ | refine Below.trans ?_ (Below.mono (by assumption) (by first | omega | exact Below.size (by assumption) | (simp; done) | (simp; omega)))))⟩
          case measure => simp [intOf]; omega
      · have hd : decide (x ≤ t) = false := by simpa using h1
        go_wp2
        go_quiet (fail)
        go_wp2
        go_roundw
        case rel => exact ⟨k + 1, by omega, by go_num, by rw [Hst.out, if_neg (by omega)]; simp, (by repeat (first | exact Below.refl _ _ | assumption | refine Below.drew ?_ | refine below_drewN ?_ _ | refine Below.alloc ?_ (by first | omega | exact Below.size (by assumption) | (simp; done) | (simp; omega)) _ | refine Below.setCell ?_ (by first | omega | exact Below.size (by assumption) | (simp; done) | (simp; omega)) _ | refine Below.trans ?_ (Below.mono (by assumption) (by first | omega | exact Below.size (by assumption) | (simp; done) | (simp; omega)))))⟩
        case measure => simp [intOf]; omega
    · go_wp2
      obtain rfl : k = n := by omega
      go_ret2
      exact ⟨rfl, hb2⟩

set_option maxHeartbeats 1000000 in
theorem work_err (A : Option Addr) (n c : Nat) (l : List (Int × Int)) (t : Int) (w : World) (hr : Rd w A (l.flatMap c2)) (hn : l.length = n) (hm : n ≤ 140737488355328) (h : (wrongX l == 0) = false) :
    Calls Try.prog 17 #[.slice A n c, .int .i64 t] w fun e w' => e = .returned (.tuple #[.int .i64 0, .int .i64 (wrongX l)]) ∧ Below w.heap.size w w' := by
  have H := Lib.hid (wrong_any A n c l w hr hn hm)
  clear hr hn hm
  generalize wrongX l = x at H h ⊢
  have h' : (x != 0) = true := by rw [bne, h]; rfl
  go_enter Try.func17, Try.ntmps17
  go_wp2_with fail
  refine H.out.mono ?_
  rintro e w1 ⟨rfl, hb⟩
  go_wp2_with fail
  go_ret2
  exact ⟨rfl, (by repeat (first | exact Below.refl _ _ | assumption | refine Below.drew ?_ | refine below_drewN ?_ _ | refine Below.alloc ?_ (by first | omega | exact Below.size (by assumption) | (simp; done) | (simp; omega)) _ | refine Below.setCell ?_ (by first | omega | exact Below.size (by assumption) | (simp; done) | (simp; omega)) _ | refine Below.trans ?_ (Below.mono (by assumption) (by first | omega | exact Below.size (by assumption) | (simp; done) | (simp; omega)))))⟩

set_option maxHeartbeats 2000000 in
theorem work_ok (A : Option Addr) (n c : Nat) (l : List (Int × Int)) (t : Int) (w : World) (hr : Rd w A (l.flatMap c2)) (hn : l.length = n) (g : Good l) (h : wrongX l = 0) (ht0 : -9223372036854775808 ≤ t) (ht1 : t ≤ 9223372036854775807) :
    Calls Try.prog 17 #[.slice A n c, .int .i64 t] w fun e w' => e = .returned (.tuple #[.int .i64 (xwork l t n), .int .i64 0]) ∧ Below w.heap.size w w' := by
  have hnb : n ≤ 400 := by have := g.len; omega
  have H := Lib.hid (wrong_any A n c l w hr hn (by omega))
  rw [h] at H
  have Hn := Lib.hid hn; clear hn h
  go_enter Try.func17, Try.ntmps17
  go_wp2_with fail
  refine H.out.mono ?_
  rintro e w1 ⟨rfl, hb⟩
  go_wp2_with fail
  go_loopw [7, 8, 18] (fun v m i wr => ∃ (k : Nat), k ≤ n ∧ i = .int .i64 k ∧ v = .int .i64 (freeAt l k - prev l k) ∧ m = .int .i64 (prev l k) ∧ (∀ j, (hj : j < k) → (l.getD j (0, 0)).1 ≤ t) ∧ Below w.heap.size w wr) (fun _ _ i _ => n - (intOf i).toNat)
  case atStart => exact ⟨0, by omega, rfl, rfl, rfl, fun j hj => by omega, (by repeat (first | exact Below.refl _ _ | assumption | refine Below.drew ?_ | refine below_drewN ?_ _ | refine Below.alloc ?_ (by first | omega | exact Below.size (by assumption) | (simp; done) | (simp; omega)) _ | refine Below.setCell ?_ (by first | omega | exact Below.size (by assumption) | (simp; done) | (simp; omega)) _ | refine Below.trans ?_ (Below.mono (by assumption) (by first | omega | exact Below.size (by assumption) | (simp; done) | (simp; omega)))))⟩
  case round =>
    obtain ⟨k, hk, rfl, rfl, rfl, hbefore, hbw⟩ := hrel
    have Hbe := Lib.hid hbefore; clear hbefore
    have hsz := hbw.size
    have hkl : k ≤ l.length := by have := Hn.out; omega
    obtain ⟨hp0, hp1⟩ := prev_bd g k hkl
    have hpf := prev_free g k hkl
    obtain ⟨hf0, hf1⟩ := freeAt_bd g k hkl
    have hf2 : freeAt l k ≤ 1048576 * 401 := by omega
    have Hend : Hid ((∀ h : k < l.length, t < l[k].1) → xwork l t n = if k = 0 then 0 else max (freeAt l k - t) 0) := Lib.hid (by
      intro h1
      rw [← Hn.out]
      exact xwork_end g t k hkl h1 (fun j hj => by have := Hbe.out j hj; rwa [getD_eq (by omega)] at this))
    have Hz : Hid (k = 0 → freeAt l k = 0 ∧ prev l k = 0) := Lib.hid (by rintro rfl; exact ⟨rfl, rfl⟩)
    clear hf1
    by_cases hlt : k < n
    · have hl : k < l.length := by have := Hn.out; omega
      obtain ⟨x, y, Hxy⟩ := get_hid l k hl
      obtain ⟨b, off, rfl, hbl, hc0, hc1⟩ := at2w hr hbw hl Hxy.out
      have hg := g.ok k hl
      have hrise := prev_rise g k hl
      rw [Hxy.out] at hg hrise
      obtain ⟨hx0, hx1, hy0, hy1⟩ := hg
      simp only at hx0 hx1 hy0 hy1 hrise
      have Hfs : Hid (freeAt l (k + 1) = max (freeAt l k) x + y) := Lib.hid (by rw [freeAt, getD_eq hl, Hxy.out])
      have Hps : Hid (prev l (k + 1) = x) := Lib.hid (by rw [prev, getD_eq hl, Hxy.out])
      generalize freeAt l k = f at hf0 hf2 hpf Hfs Hend Hz ⊢
      have Hpt : Hid (0 < k → prev l k ≤ t) := Lib.hid (by
        intro h
        obtain ⟨j, rfl⟩ : ∃ j, k = j + 1 := ⟨k - 1, by omega⟩
        exact Hbe.out j (by omega))
      generalize prev l k = p at hp0 hp1 hpf hrise Hz Hpt ⊢
      by_cases hgo : x ≤ t
      · have Hbe' : Hid (∀ j, (hj : j < k + 1) → (l.getD j (0, 0)).1 ≤ t) := Lib.hid (by
          intro j hj
          rcases Nat.lt_or_ge j k with h | h
          · exact Hbe.out j h
          · rw [show j = k from by omega, getD_eq hl, Hxy.out]; exact hgo)
        by_cases hmx : f < x
        · go_wp2
          go_roundw
          case rel => exact ⟨k + 1, by omega, by go_num, val_int (by rw [Hfs.out, Hps.out]; omega), by rw [Hps.out], Hbe'.out, (by repeat (first | exact Below.refl _ _ | assumption | refine Below.drew ?_ | refine below_drewN ?_ _ | refine Below.alloc ?_ (by first | omega | exact Below.size (by assumption) | (simp; done) | (simp; omega)) _ | refine Below.setCell ?_ (by first | omega | exact Below.size (by assumption) | (simp; done) | (simp; omega)) _ | refine Below.trans ?_ (Below.mono (by assumption) (by first | omega | exact Below.size (by assumption) | (simp; done) | (simp; omega)))))⟩
          case measure => simp [intOf]; omega
        · go_wp2
          go_roundw
          case rel => exact ⟨k + 1, by omega, by go_num, val_int (by rw [Hfs.out, Hps.out]; omega), by rw [Hps.out], Hbe'.out, (by repeat (first | exact Below.refl _ _ | assumption | refine Below.drew ?_ | refine below_drewN ?_ _ | refine Below.alloc ?_ (by first | omega | exact Below.size (by assumption) | (simp; done) | (simp; omega)) _ | refine Below.setCell ?_ (by first | omega | exact Below.size (by assumption) | (simp; done) | (simp; omega)) _ | refine Below.trans ?_ (Below.mono (by assumption) (by first | omega | exact Below.size (by assumption) | (simp; done) | (simp; omega)))))⟩
          case measure => simp [intOf]; omega
      · have hlater : t < x := by omega
        have He : Hid (xwork l t n = if k = 0 then 0 else max (f - t) 0) := Lib.hid (Hend.out (fun _ => by rw [Hxy.out]; exact hlater))
        by_cases hneg : t < p
        · have Hk0 : Hid (k = 0) := Lib.hid (by rcases Nat.eq_zero_or_pos k with h | h; exact h; have := Hpt.out h; omega)
          go_wp2
          go_ret2
          exact ⟨ret_t2 (by rw [He.out, if_pos Hk0.out]), (by repeat (first | exact Below.refl _ _ | assumption | refine Below.drew ?_ | refine below_drewN ?_ _ | refine Below.alloc ?_ (by first | omega | exact Below.size (by assumption) | (simp; done) | (simp; omega)) _ | refine Below.setCell ?_ (by first | omega | exact Below.size (by assumption) | (simp; done) | (simp; omega)) _ | refine Below.trans ?_ (Below.mono (by assumption) (by first | omega | exact Below.size (by assumption) | (simp; done) | (simp; omega)))))⟩
        · go_wp2
          all_goals
            go_ret2
            exact ⟨ret_t2 (by rw [He.out]; have := Hz.out; split <;> omega), (by repeat (first | exact Below.refl _ _ | assumption | refine Below.drew ?_ | refine below_drewN ?_ _ | refine Below.alloc ?_ (by first | omega | exact Below.size (by assumption) | (simp; done) | (simp; omega)) _ | refine Below.setCell ?_ (by first | omega | exact Below.size (by assumption) | (simp; done) | (simp; omega)) _ | refine Below.trans ?_ (Below.mono (by assumption) (by first | omega | exact Below.size (by assumption) | (simp; done) | (simp; omega)))))⟩
    · have He : Hid (xwork l t n = if k = 0 then 0 else max (freeAt l k - t) 0) := Lib.hid (Hend.out (fun h => by have := Hn.out; omega))
      have Hpt : Hid (0 < k → prev l k ≤ t) := Lib.hid (by
        intro h
        obtain ⟨j, rfl⟩ : ∃ j, k = j + 1 := ⟨k - 1, by omega⟩
        exact Hbe.out j (by omega))
      generalize freeAt l k = f at hf0 hf2 hpf Hend Hz He ⊢
      generalize prev l k = p at hp0 hp1 hpf Hz Hpt ⊢
      by_cases hneg : t < p
      · have Hk0 : Hid (k = 0) := Lib.hid (by rcases Nat.eq_zero_or_pos k with h | h; exact h; have := Hpt.out h; omega)
        go_wp2
        go_ret2
        exact ⟨ret_t2 (by rw [He.out, if_pos Hk0.out]), (by repeat (first | exact Below.refl _ _ | assumption | refine Below.drew ?_ | refine below_drewN ?_ _ | refine Below.alloc ?_ (by first | omega | exact Below.size (by assumption) | (simp; done) | (simp; omega)) _ | refine Below.setCell ?_ (by first | omega | exact Below.size (by assumption) | (simp; done) | (simp; omega)) _ | refine Below.trans ?_ (Below.mono (by assumption) (by first | omega | exact Below.size (by assumption) | (simp; done) | (simp; omega)))))⟩
      · go_wp2
        all_goals
          go_ret2
          exact ⟨ret_t2 (by rw [He.out]; have := Hz.out; split <;> omega), (by repeat (first | exact Below.refl _ _ | assumption | refine Below.drew ?_ | refine below_drewN ?_ _ | refine Below.alloc ?_ (by first | omega | exact Below.size (by assumption) | (simp; done) | (simp; omega)) _ | refine Below.setCell ?_ (by first | omega | exact Below.size (by assumption) | (simp; done) | (simp; omega)) _ | refine Below.trans ?_ (Below.mono (by assumption) (by first | omega | exact Below.size (by assumption) | (simp; done) | (simp; omega)))))⟩
end Go.Proofs.Ytlmnlffbbbcodaa.Lindley
