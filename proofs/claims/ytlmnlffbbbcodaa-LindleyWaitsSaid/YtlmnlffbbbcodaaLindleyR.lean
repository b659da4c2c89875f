/- Walks of the reference of lindley. -/
import Derived.Test.YtlmnlffbbbcodaaLindleyA
namespace Go.Proofs.Ytlmnlffbbbcodaa.Lindley
open Go.RowKit

set_option maxHeartbeats 1000000 in
theorem xwrong_any (A : Option Addr) (n c : Nat) (l : List (Int × Int)) (w : World) (hr : Rd w A (l.flatMap c2)) (hn : l.length = n) (hm : n ≤ 140737488355328) :
    Calls Try.prog 18 #[.slice A n c] w fun e w' => e = .returned (.int .i64 (wrongX l)) ∧ Below w.heap.size w w' := by
  have Hn := Lib.hid hn; clear hn
  by_cases hbig : 400 < n
  · go_enter Try.func18, Try.ntmps18
    go_wp2
    go_ret
    exact ⟨ret_int (by have := Hn.out; rw [wrongX, if_pos (by omega)]), (by repeat (first | exact Below.refl _ _ | assumption | refine Below.drew ?_ | refine below_drewN ?_ _ | refine Below.alloc ?_ (by first | omega | exact Below.size (by assumption) | (simp; done) | (simp; omega)) _ | refine Below.setCell ?_ (by first | omega | exact Below.size (by assumption) | (simp; done) | (simp; omega)) _ | refine Below.trans ?_ (Below.mono (by assumption) (by first | omega | exact Below.size (by assumption) | (simp; done) | (simp; omega)))))⟩
  go_enter Try.func18, Try.ntmps18
  go_wp2
  go_loopw [3, 11] (fun v i wr => ∃ (k : Nat) (last : Int), k ≤ n ∧ i = .int .i64 k ∧ v = .int .i64 last ∧ Below w.heap.size w wr ∧ wrongX l = wrongFrom last (l.drop k)) (fun _ i _ => n - (intOf i).toNat)
  case atStart => exact ⟨0, 0, by omega, rfl, rfl, (by repeat (first | exact Below.refl _ _ | assumption | refine Below.drew ?_ | refine below_drewN ?_ _ | refine Below.alloc ?_ (by first | omega | exact Below.size (by assumption) | (simp; done) | (simp; omega)) _ | refine Below.setCell ?_ (by first | omega | exact Below.size (by assumption) | (simp; done) | (simp; omega)) _ | refine Below.trans ?_ (Below.mono (by assumption) (by first | omega | exact Below.size (by assumption) | (simp; done) | (simp; omega))))), by have := Hn.out; rw [wrongX, if_neg (by omega)]; rfl⟩
  case round =>
    obtain ⟨k, last, hk, rfl, rfl, hbw, hf⟩ := hrel
    have hsz := hbw.size
    have Hf := Lib.hid hf; clear hf
    by_cases hlt : k < n
    · have hl : k < l.length := by have := Hn.out; omega
      have Hst := Lib.hid (wrong_step hl last)
      obtain ⟨x, y, Hxy⟩ := get_hid l k hl
      obtain ⟨b, off, rfl, hbl, hc0, hc1⟩ := at2w hr hbw hl Hxy.out
      by_cases hbad : badS l[k] = true
      · have Hb : Hid (wrongX l = 2) := Lib.hid (by rw [Hf.out, Hst.out, if_pos hbad])
        rw [Hxy.out] at hbad
        simp only [badS, Bool.or_eq_true, decide_eq_true_eq] at hbad
        have hbad' : (x < 0) ∨ (0 ≤ x ∧ 1048576 < x) ∨ (0 ≤ x ∧ x ≤ 1048576 ∧ y < 0) ∨ (0 ≤ x ∧ x ≤ 1048576 ∧ 0 ≤ y ∧ 1048576 < y) := by omega
        clear hbad
        rcases hbad' with h1 | ⟨h1, h2⟩ | ⟨h1, h2, h3⟩ | ⟨h1, h2, h3, h4⟩
        all_goals
          go_wp2
          go_ret
          exact ⟨ret_int (by rw [Hb.out]), (by repeat (first | exact Below.refl _ _ | assumption | refine Below.drew ?_ | refine below_drewN ?_ _ | refine Below.alloc ?_ (by first | omega | exact Below.size (by assumption) | (simp; done) | (simp; omega)) _ | refine Below.setCell ?_ (by first | omega | exact Below.size (by assumption) | (simp; done) | (simp; omega)) _ | refine Below.trans ?_ (Below.mono (by assumption) (by first | omega | exact Below.size (by assumption) | (simp; done) | (simp; omega)))))⟩
      · have hbad' : badS l[k] = false := by simpa using hbad
        have hgood := badS_false hbad'
        rw [Hxy.out] at hgood
        obtain ⟨hx0, hx1, hy0, hy1⟩ := hgood
        simp only at hx0 hx1 hy0 hy1
        have Hst' := Lib.hid Hst.out
        rw [if_neg hbad, Hxy.out] at Hst'
        clear hbad hbad' Hst
        by_cases hlast : x < last
        · go_wp2
          go_ret
          exact ⟨ret_int (by rw [Hf.out, Hst'.out, if_pos hlast]), (by repeat (first | exact Below.refl _ _ | assumption | refine Below.drew ?_ | refine below_drewN ?_ _ | refine Below.alloc ?_ (by first | omega | exact Below.size (by assumption) | (simp; done) | (simp; omega)) _ | refine Below.setCell ?_ (by first | omega | exact Below.size (by assumption) | (simp; done) | (simp; omega)) _ | refine Below.trans ?_ (Below.mono (by assumption) (by first | omega | exact Below.size (by assumption) | (simp; done) | (simp; omega)))))⟩
        · go_wp2
          go_roundw
          case rel => exact ⟨k + 1, x, by omega, by go_num, rfl, (by repeat (first | exact Below.refl _ _ | assumption | refine Below.drew ?_ | refine below_drewN ?_ _ | refine Below.alloc ?_ (by first | omega | exact Below.size (by assumption) | (simp; done) | (simp; omega)) _ | refine Below.setCell ?_ (by first | omega | exact Below.size (by assumption) | (simp; done) | (simp; omega)) _ | refine Below.trans ?_ (Below.mono (by assumption) (by first | omega | exact Below.size (by assumption) | (simp; done) | (simp; omega))))), by rw [Hf.out, Hst'.out, if_neg (by simp only; omega)]⟩
          case measure => first | (simp [intOf]; done) | (simp [intOf]; omega)
    · go_wp2
      go_ret
      exact ⟨ret_int (by rw [Hf.out, show k = l.length from by have := Hn.out; omega, wrong_end]), (by repeat (first | exact Below.refl _ _ | assumption | refine Below.drew ?_ | refine below_drewN ?_ _ | refine Below.alloc ?_ (by first | omega | exact Below.size (by assumption) | (simp; done) | (simp; omega)) _ | refine Below.setCell ?_ (by first | omega | exact Below.size (by assumption) | (simp; done) | (simp; omega)) _ | refine Below.trans ?_ (Below.mono (by assumption) (by first | omega | exact Below.size (by assumption) | (simp; done) | (simp; omega)))))⟩

set_option maxHeartbeats 1000000 in
theorem xwait_any (A : Option Addr) (n c : Nat) (l : List (Int × Int)) (k : Nat) (w : World) (hr : Rd w A (l.flatMap c2)) (hn : l.length = n) (g : Good l) (hkn : k < n) :
    Calls Try.prog 20 #[.slice A n c, .int .i64 k] w fun e w' => e = .returned (.int .i64 (xwait l k)) ∧ ∃ q, w' = w.drewN q := by
  have hnb : n ≤ 400 := by have := g.len; omega
  have Hn := Lib.hid hn; clear hn
  have hlk : k < l.length := by have := Hn.out; omega
  obtain ⟨xk, yk, Hk⟩ := get_hid l k hlk
  have hgk := g.ok k hlk
  obtain ⟨b, off, rfl, hbl, hk0, hk1⟩ := at2w hr (Below.refl _ _) hlk Hk.out
  rw [Hk.out] at hgk
  obtain ⟨hxk0, hxk1, _, _⟩ := hgk
  simp only at hxk0 hxk1
  go_enter Try.func20, Try.ntmps20
  go_wp2
  go_loopw [5, 6, 7] (fun v s i wr => ∃ (m q : Nat), m ≤ k ∧ i = .int .i64 ((k : Int) - 1 - m) ∧ v = .int .i64 (ahead l k m).1 ∧ s = .int .i64 (ahead l k m).2 ∧ wr = w.drewN q) (fun _ _ i _ => (intOf i + 1).toNat)
  case atStart => exact ⟨0, 0, by omega, val_int (by omega), rfl, rfl, rfl⟩
  case round =>
    obtain ⟨m, q, hm, rfl, rfl, rfl, rfl⟩ := hrel
    have hab := ahead_bd g k hlk m hm
    obtain ⟨ha0, ha1, ha2, ha3⟩ := hab
    have ha1' : (ahead l k m).1 ≤ 1048576 * 400 := by omega
    have ha3' : (ahead l k m).2 ≤ 1048576 * 400 := by omega
    clear ha1 ha3
    by_cases hlt : m < k
    · obtain ⟨j, hj⟩ : ∃ j : Nat, (k : Int) - 1 - m = j := ⟨k - 1 - m, by omega⟩
      have hjk : k - 1 - m = j := by omega
      have hjl : j < l.length := by omega
      obtain ⟨x, y, Hxy⟩ := get_hid l j hjl
      obtain ⟨b', off', hA', _, hc0, hc1⟩ := at2w hr (Below.refl _ _) hjl Hxy.out
      cases hA'
      have hgj := g.ok j hjl
      rw [Hxy.out] at hgj
      obtain ⟨hx0, hx1, hy0, hy1⟩ := hgj
      simp only at hx0 hx1 hy0 hy1
      have Hst : Hid (ahead l k (m + 1) = (max (ahead l k m).1 ((ahead l k m).2 + y - (xk - x)), (ahead l k m).2 + y)) := Lib.hid (by
        rw [ahead, hjk, getD_eq hjl, getD_eq hlk, Hxy.out, Hk.out])
      rw [hj]
      have hjn : j < n := by omega
      have Hj := Lib.hid hj; clear hj hjk
      generalize (ahead l k m).1 = M at ha0 ha1' Hst ⊢
      generalize (ahead l k m).2 = S at ha2 ha3' Hst ⊢
      by_cases hmx : M < S + y - (xk - x)
      · go_wp2
        go_quiet (fail)
        go_wp2
        go_roundw
        case rel => exact ⟨m + 1, _, by omega, val_int (by have := Hj.out; omega), val_int (by rw [Hst.out]; simp only; omega), val_int (by rw [Hst.out]), rfl⟩
        case measure => first | (simp [intOf]; done) | (simp [intOf]; omega)
      · go_wp2
        go_quiet (fail)
        go_wp2
        go_roundw
        case rel => exact ⟨m + 1, _, by omega, val_int (by have := Hj.out; omega), val_int (by rw [Hst.out]; simp only; omega), val_int (by rw [Hst.out]), rfl⟩
        case measure => first | (simp [intOf]; done) | (simp [intOf]; omega)
    · go_wp2
      go_ret
      obtain rfl : m = k := by omega
      exact ⟨rfl, q, rfl⟩

theorem xwait_bd {l : List (Int × Int)} (g : Good l) (k : Nat) (hk : k < l.length) : 0 ≤ xwait l k ∧ xwait l k ≤ 1048576 * 400 := by
  have h1 := ahead_bd g k hk k (Nat.le_refl _)
  have h2 := g.len
  have h3 : xwait l k = (ahead l k k).1 := rfl
  omega

set_option maxHeartbeats 2000000 in
theorem xwork_any (A : Option Addr) (n c : Nat) (l : List (Int × Int)) (t : Int) (w : World) (hr : Rd w A (l.flatMap c2)) (hn : l.length = n) (g : Good l) (ht0 : -9223372036854775808 ≤ t) (ht1 : t ≤ 9223372036854775807) :
    Calls Try.prog 21 #[.slice A n c, .int .i64 t] w fun e w' => e = .returned (.int .i64 (xwork l t n)) ∧ Below w.heap.size w w' := by
  have hnb : n ≤ 400 := by have := g.len; omega
  have Hn := Lib.hid hn; clear hn
  go_enter Try.func21, Try.ntmps21
  go_wp2
  go_loopw [5, 12] (fun v i wr => ∃ (k : Nat), k ≤ n ∧ i = .int .i64 k ∧ v = .int .i64 (xwork l t k) ∧ Below w.heap.size w wr) (fun _ i _ => n - (intOf i).toNat)
  case atStart => exact ⟨0, by omega, rfl, rfl, (by repeat (first | exact Below.refl _ _ | assumption | refine Below.drew ?_ | refine below_drewN ?_ _ | refine Below.alloc ?_ (by first | omega | exact Below.size (by assumption) | (simp; done) | (simp; omega)) _ | refine Below.setCell ?_ (by first | omega | exact Below.size (by assumption) | (simp; done) | (simp; omega)) _ | refine Below.trans ?_ (Below.mono (by assumption) (by first | omega | exact Below.size (by assumption) | (simp; done) | (simp; omega)))))⟩
  case round =>
    obtain ⟨k, hk, rfl, rfl, hbw⟩ := hrel
    have hsz := hbw.size
    by_cases hlt : k < n
    · have hl : k < l.length := by have := Hn.out; omega
      obtain ⟨x, y, Hxy⟩ := get_hid l k hl
      obtain ⟨b, off, rfl, hbl, hc0, hc1⟩ := at2w hr hbw hl Hxy.out
      have hg := g.ok k hl
      rw [Hxy.out] at hg
      obtain ⟨hx0, hx1, hy0, hy1⟩ := hg
      simp only at hx0 hx1 hy0 hy1
      obtain ⟨hq0, hq1⟩ := xwait_bd g k hl
      obtain ⟨hw0, hw1⟩ := xwork_bd l g t k (by omega)
      have hw2 : xwork l t k ≤ 1048576 * 400 := by omega
      clear hw1
      have Hst : Hid (xwork l t (k + 1) = xwork l t k + (if t < x then 0 else y - (if x + xwait l k < t then min (t - (x + xwait l k)) y else 0))) := Lib.hid (by rw [xwork, leftOf, getD_eq hl, Hxy.out])
      have Hcall : Hid (∀ W, Below w.heap.size w W → Calls Try.prog 20 #[.slice (some ⟨b, off, none⟩) n c, .int .i64 k] W fun e w' => e = .returned (.int .i64 (xwait l k)) ∧ ∃ q, w' = W.drewN q) :=
        Lib.hid (fun W hW => xwait_any _ n c l k W (hr.below hW) Hn.out g hlt)
      generalize xwait l k = q at hq0 hq1 Hst Hcall
      generalize xwork l t k = m at hw0 hw2 Hst ⊢
      by_cases hgo : t < x
      · go_wp2
        go_roundw
        case rel => exact ⟨k + 1, by omega, by go_num, val_int (by rw [Hst.out, if_pos (by omega)]; omega), (by repeat (first | exact Below.refl _ _ | assumption | refine Below.drew ?_ | refine below_drewN ?_ _ | refine Below.alloc ?_ (by first | omega | exact Below.size (by assumption) | (simp; done) | (simp; omega)) _ | refine Below.setCell ?_ (by first | omega | exact Below.size (by assumption) | (simp; done) | (simp; omega)) _ | refine Below.trans ?_ (Below.mono (by assumption) (by first | omega | exact Below.size (by assumption) | (simp; done) | (simp; omega)))))⟩
        case measure => first | (simp [intOf]; done) | (simp [intOf]; omega)
      · by_cases h1 : x + q < t
        · by_cases h2 : y < t - (x + q)
          all_goals
            go_wp2_with fail
            go_quiet ((go_at_call 20; exact Calls.quiet_of (Hcall.out _ (by repeat (first | exact Below.refl _ _ | assumption | refine Below.drew ?_ | refine below_drewN ?_ _ | refine Below.alloc ?_ (by first | omega | exact Below.size (by assumption) | (simp; done) | (simp; omega)) _ | refine Below.setCell ?_ (by first | omega | exact Below.size (by assumption) | (simp; done) | (simp; omega)) _ | refine Below.trans ?_ (Below.mono (by assumption) (by first | omega | exact Below.size (by assumption) | (simp; done) | (simp; omega))))))))
            go_wp2_with fail
            go_roundw
            case rel => exact ⟨k + 1, by omega, by go_num, val_int (by rw [Hst.out, if_neg (by omega), if_pos (by omega)]; omega), (by repeat (first | exact Below.refl _ _ | assumption | refine Below.drew ?_ | refine below_drewN ?_ _ | refine Below.alloc ?_ (by first | omega | exact Below.size (by assumption) | (simp; done) | (simp; omega)) _ | refine Below.setCell ?_ (by first | omega | exact Below.size (by assumption) | (simp; done) | (simp; omega)) _ | refine Below.trans ?_ (Below.mono (by assumption) (by first | omega | exact Below.size (by assumption) | (simp; done) | (simp; omega)))))⟩
            case measure => first | (simp [intOf]; done) | (simp [intOf]; omega)
        · go_wp2_with fail
          go_quiet ((go_at_call 20; exact Calls.quiet_of (Hcall.out _ (by repeat (first | exact Below.refl _ _ | assumption | refine Below.drew ?_ | refine below_drewN ?_ _ | refine Below.alloc ?_ (by first | omega | exact Below.size (by assumption) | (simp; done) | (simp; omega)) _ | refine Below.setCell ?_ (by first | omega | exact Below.size (by assumption) | (simp; done) | (simp; omega)) _ | refine Below.trans ?_ (Below.mono (by assumption) (by first | omega | exact Below.size (by assumption) | (simp; done) | (simp; omega))))))))
          go_wp2_with fail
          go_roundw
          case rel => exact ⟨k + 1, by omega, by go_num, val_int (by rw [Hst.out, if_neg (by omega), if_neg (by omega)]; omega), (by repeat (first | exact Below.refl _ _ | assumption | refine Below.drew ?_ | refine below_drewN ?_ _ | refine Below.alloc ?_ (by first | omega | exact Below.size (by assumption) | (simp; done) | (simp; omega)) _ | refine Below.setCell ?_ (by first | omega | exact Below.size (by assumption) | (simp; done) | (simp; omega)) _ | refine Below.trans ?_ (Below.mono (by assumption) (by first | omega | exact Below.size (by assumption) | (simp; done) | (simp; omega)))))⟩
          case measure => first | (simp [intOf]; done) | (simp [intOf]; omega)
    · go_wp2_with fail
      go_ret
      obtain rfl : k = n := by omega
      exact ⟨rfl, hbw⟩
end Go.Proofs.Ytlmnlffbbbcodaa.Lindley
