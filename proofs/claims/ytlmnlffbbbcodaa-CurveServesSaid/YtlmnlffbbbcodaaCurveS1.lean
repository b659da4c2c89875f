/- Walks: curve.bad, Keeps, Serve. -/
import Derived.Test.YtlmnlffbbbcodaaCurveS0
import Derived.Test.YtlmnlffbbbcodaaCurveM
import Derived.Test.YtlmnlffbbbcodaaIntFn
namespace Go.Proofs.Ytlmnlffbbbcodaa.CurveS
open Go.RowKit

def badL (zs : List Int) : Bool := decide (400 < zs.length) || !zs.all fit20
theorem good_all {zs : List Int} (h : badL zs = false) : zs.length ≤ 400 ∧ ∀ x ∈ zs, 0 ≤ x ∧ x ≤ 1048576 := by
  simp only [badL, Bool.or_eq_false_iff, decide_eq_false_iff_not, Bool.not_eq_false'] at h
  exact ⟨by omega, fun x hx => fit20_true (List.all_eq_true.1 h.2 x hx)⟩
theorem getD_of {zs : List Int} {k : Nat} (h : k < zs.length) : zs.getD k 0 = zs[k] := by
  rw [List.getD_eq_getElem?_getD, List.getElem?_eq_getElem h]; rfl

set_option maxHeartbeats 1000000 in
theorem bad_any (A : Option Addr) (n c : Nat) (zs : List Int) (w : World) (hr : RdI .i64 w A zs) (hn : zs.length = n) (hm : n ≤ 140737488355328) :
    Calls Try.prog 81 #[.slice A n c] w fun e w' => e = .returned (.bool (badL zs)) ∧ w = w' := by
  have HF : Hid (∀ x W, Calls Try.prog 111 #[(.int .i64 x)] W fun e w' => e = .returned (.bool (fit20 x)) ∧ W = w') := Lib.hid fun x W => fits_any x W
  have Hn := Lib.hid hn; clear hn
  by_cases hbig : 400 < n
  · have HV : Hid (badL zs = true) := Lib.hid (by simp [badL, Hn.out, hbig])
    go_enter Try.func81, Try.ntmps81
    go_wp2_with fail
    go_ret
    exact ⟨ret_bool HV.out.symm, rfl⟩
  have HV : Hid (badL zs = !zs.all fit20) := Lib.hid (by simp [badL, Hn.out]; omega)
  go_enter Try.func81, Try.ntmps81
  go_wp2_with fail
  go_loop [10] (fun i => ∃ k : Nat, k ≤ n ∧ i = .int .i64 k ∧ (zs.take k).all fit20 = true) (fun i => n - (intOf i).toNat)
  case atStart => exact ⟨0, by omega, rfl, rfl⟩
  case round =>
    obtain ⟨k, hk, rfl, ha⟩ := hrel
    have Ha := Lib.hid ha; clear ha
    by_cases hlt : k < n
    · have hl : k < zs.length := by have := Hn.out; omega
      obtain ⟨b, off, rfl, hc⟩ := hr.at_ hl
      obtain ⟨x, Hx⟩ : ∃ x, Hid (zs[k] = x) := ⟨_, Lib.hid rfl⟩
      rw [Hx.out] at hc
      have HF1 : Hid (∀ W, Calls Try.prog 111 #[(.int .i64 x)] W fun e w' => e = .returned (.bool (fit20 x)) ∧ W = w') := Lib.hid fun W => HF.out x W
      obtain ⟨f, Hf⟩ : ∃ f, Hid (fit20 x = f) := ⟨_, Lib.hid rfl⟩
      rw [Hf.out] at HF1
      go_wp2_with fail
      refine (HF1.out _).mono ?_
      rintro e w' ⟨rfl, rfl⟩
      cases f
      · go_wp2_with fail
        go_ret
        exact ⟨ret_bool (by
          rw [HV.out, List.all_eq_false.2 ⟨zs[k], List.getElem_mem hl, by rw [Hx.out, Hf.out]; simp⟩]; rfl), rfl⟩
      · go_wp2_with fail
        go_round
        case rel => exact ⟨k + 1, by omega, by go_num, by rw [all_snoc zs k hl, Ha.out, Hx.out, Hf.out]; rfl⟩
        case measure => first | (simp [intOf]; done) | (simp [intOf]; omega)
    · go_wp2_with fail
      go_ret
      exact ⟨ret_bool (by rw [List.take_of_length_le (by have := Hn.out; omega)] at Ha; rw [HV.out, Ha.out]; rfl), rfl⟩

theorem own4_l {b r : Int} : own4 b r 0 0 = (fit20 b && fit20 r) := by simp [own4, fit20]
theorem own4_r {b r : Int} : own4 0 0 b r = (fit20 b && fit20 r) := by simp [own4, fit20]

set_option maxHeartbeats 1000000 in
theorem keeps_err (b r : Int) (A : Option Addr) (n c : Nat) (zs : List Int) (w : World) (hr : RdI .i64 w A zs) (hn : zs.length = n) (hm : n ≤ 140737488355328) (h : (fit20 b && fit20 r && !badL zs) = false) :
    Calls Try.prog 26 #[.agg #[(.int .i64 b), (.int .i64 r)], .slice A n c] w fun e w' => e = .returned (.tuple #[.bool false, (.int .i64 2)]) ∧ Below w.heap.size w w' := by
  have HW : Hid (∀ W, Calls Try.prog 80 #[.agg #[(.int .i64 b), (.int .i64 r)], .agg #[(.int .i64 0), (.int .i64 0)]] W fun e w' => e = .returned ((.int .i64 (err2 (fit20 b && fit20 r)))) ∧ Below W.heap.size W w') := Lib.hid fun W => by have := cwrong_any b r 0 0 W; rwa [own4_l] at this
  have HB : Hid (∀ W, Below w.heap.size w W → Calls Try.prog 81 #[.slice A n c] W fun e w' => e = .returned (.bool (badL zs)) ∧ W = w') := Lib.hid fun W hW => bad_any A n c zs W (hr.below hW) hn hm
  generalize badL zs = bd at HB h
  generalize (fit20 b && fit20 r) = f at HW h
  clear hr hn hm
  cases f
  · simp only [err2, Bool.false_eq_true, if_false] at HW
    go_enter Try.func26, Try.ntmps26
    go_wp2_with fail
    refine (HW.out _).mono ?_
    rintro e w1 ⟨rfl, hb1⟩
    have c1_0 := fun o => Below.cell hb1 (p := ⟨w.heap.size, o, none⟩) (by first | omega | exact Below.size (by assumption) | (simp; done) | (simp; omega))
    have l1_0 : w.heap.size < w1.heap.size := Nat.lt_of_lt_of_le (by first | omega | exact Below.size (by assumption) | (simp; done) | (simp; omega)) (Below.size hb1)
    go_wp2_with fail
    go_ret2
    exact ⟨rfl, (by repeat (first | (with_reducible exact Below.refl _ _) | (with_reducible assumption) | (with_reducible refine Below.drew ?_) | (with_reducible refine below_drewN ?_ _) | ((with_reducible refine Below.setCell ?_ ?_ _); rotate_left; (next => first | omega | exact Nat.le_refl _ | (refine Below.size (B := ?_) ?_; rotate_left; assumption) | (simp; done) | (simp; omega))) | ((with_reducible refine Below.alloc ?_ ?_ _); rotate_left; (next => first | omega | exact Nat.le_refl _ | (refine Below.size (B := ?_) ?_; rotate_left; assumption) | (simp; done) | (simp; omega))) | ((with_reducible refine Below.trans (b := ?_) ?_ (Below.mono (B := ?_) ?_ ?_)); rotate_left 3; (next => (with_reducible assumption)); (next => first | omega | exact Nat.le_refl _ | (refine Below.size (B := ?_) ?_; rotate_left; assumption) | (simp; done) | (simp; omega))) | exact Below.refl _ _ | assumption | refine Below.drew ?_ | refine below_drewN ?_ _ | refine Below.alloc ?_ (by first | omega | exact Below.size (by assumption) | (simp; done) | (simp; omega)) _ | refine Below.setCell ?_ (by first | omega | exact Below.size (by assumption) | (simp; done) | (simp; omega)) _ | refine Below.trans ?_ (Below.mono (by assumption) (by first | omega | exact Below.size (by assumption) | (simp; done) | (simp; omega)))))⟩
  · obtain rfl : bd = true := by simpa using h
    simp only [err2, if_true] at HW
    go_enter Try.func26, Try.ntmps26
    go_wp2_with fail
    refine (HW.out _).mono ?_
    rintro e w1 ⟨rfl, hb1⟩
    have c1_0 := fun o => Below.cell hb1 (p := ⟨w.heap.size, o, none⟩) (by first | omega | exact Below.size (by assumption) | (simp; done) | (simp; omega))
    have l1_0 : w.heap.size < w1.heap.size := Nat.lt_of_lt_of_le (by first | omega | exact Below.size (by assumption) | (simp; done) | (simp; omega)) (Below.size hb1)
    have hB1 : Below w.heap.size w w1 := (by repeat (first | (with_reducible exact Below.refl _ _) | (with_reducible assumption) | (with_reducible refine Below.drew ?_) | (with_reducible refine below_drewN ?_ _) | ((with_reducible refine Below.setCell ?_ ?_ _); rotate_left; (next => first | omega | exact Nat.le_refl _ | (refine Below.size (B := ?_) ?_; rotate_left; assumption) | (simp; done) | (simp; omega))) | ((with_reducible refine Below.alloc ?_ ?_ _); rotate_left; (next => first | omega | exact Nat.le_refl _ | (refine Below.size (B := ?_) ?_; rotate_left; assumption) | (simp; done) | (simp; omega))) | ((with_reducible refine Below.trans (b := ?_) ?_ (Below.mono (B := ?_) ?_ ?_)); rotate_left 3; (next => (with_reducible assumption)); (next => first | omega | exact Nat.le_refl _ | (refine Below.size (B := ?_) ?_; rotate_left; assumption) | (simp; done) | (simp; omega))) | exact Below.refl _ _ | assumption | refine Below.drew ?_ | refine below_drewN ?_ _ | refine Below.alloc ?_ (by first | omega | exact Below.size (by assumption) | (simp; done) | (simp; omega)) _ | refine Below.setCell ?_ (by first | omega | exact Below.size (by assumption) | (simp; done) | (simp; omega)) _ | refine Below.trans ?_ (Below.mono (by assumption) (by first | omega | exact Below.size (by assumption) | (simp; done) | (simp; omega)))))
    go_wp2_with fail
    refine (HB.out _ hB1).mono ?_
    rintro e w2 ⟨rfl, rfl⟩
    go_wp2_with fail
    go_ret2
    exact ⟨rfl, (by repeat (first | (with_reducible exact Below.refl _ _) | (with_reducible assumption) | (with_reducible refine Below.drew ?_) | (with_reducible refine below_drewN ?_ _) | ((with_reducible refine Below.setCell ?_ ?_ _); rotate_left; (next => first | omega | exact Nat.le_refl _ | (refine Below.size (B := ?_) ?_; rotate_left; assumption) | (simp; done) | (simp; omega))) | ((with_reducible refine Below.alloc ?_ ?_ _); rotate_left; (next => first | omega | exact Nat.le_refl _ | (refine Below.size (B := ?_) ?_; rotate_left; assumption) | (simp; done) | (simp; omega))) | ((with_reducible refine Below.trans (b := ?_) ?_ (Below.mono (B := ?_) ?_ ?_)); rotate_left 3; (next => (with_reducible assumption)); (next => first | omega | exact Nat.le_refl _ | (refine Below.size (B := ?_) ?_; rotate_left; assumption) | (simp; done) | (simp; omega))) | exact Below.refl _ _ | assumption | refine Below.drew ?_ | refine below_drewN ?_ _ | refine Below.alloc ?_ (by first | omega | exact Below.size (by assumption) | (simp; done) | (simp; omega)) _ | refine Below.setCell ?_ (by first | omega | exact Below.size (by assumption) | (simp; done) | (simp; omega)) _ | refine Below.trans ?_ (Below.mono (by assumption) (by first | omega | exact Below.size (by assumption) | (simp; done) | (simp; omega)))))⟩

set_option maxHeartbeats 1000000 in
theorem keeps_ok (v : Bool) (b r : Int) (A : Option Addr) (n c : Nat) (zs : List Int) (w : World) (hr : RdI .i64 w A zs) (hn : zs.length = n) (hb : fit20 b = true) (hr1 : fit20 r = true) (hbad : badL zs = false) (hv : v = true ↔ KP b r zs) :
    Calls Try.prog 26 #[.agg #[(.int .i64 b), (.int .i64 r)], .slice A n c] w fun e w' => e = .returned (.tuple #[.bool v, (.int .i64 0)]) ∧ Below w.heap.size w w' := by
  obtain ⟨gl, ga⟩ := good_all hbad
  have hnb : n ≤ 400 := by omega
  have HW : Hid (∀ W, Calls Try.prog 80 #[.agg #[(.int .i64 b), (.int .i64 r)], .agg #[(.int .i64 0), (.int .i64 0)]] W fun e w' => e = .returned ((.int .i64 0)) ∧ Below W.heap.size W w') := Lib.hid fun W => by have := cwrong_any b r 0 0 W; rw [own4_l, hb, hr1] at this; exact this
  have HB : Hid (∀ W, Below w.heap.size w W → Calls Try.prog 81 #[.slice A n c] W fun e w' => e = .returned (.bool false) ∧ W = w') := Lib.hid fun W hW => hbad ▸ bad_any A n c zs W (hr.below hW) hn (by omega)
  have hb := fit20_true hb
  have hr2 := fit20_true hr1
  have HG := Lib.hid ga
  have HRb : Hid (∀ k : Nat, -(1048576 * (k : Int)) ≤ R b r zs k ∧ R b r zs k ≤ 2097152) := Lib.hid fun k => R_bd ga hb hr2 k
  obtain ⟨b0, b1⟩ := hb
  obtain ⟨r0, r1⟩ := hr2
  have Hn := Lib.hid hn
  have Hr := Lib.hid hr
  have HV : Hid (v = true ↔ ∀ k, 0 < k → k ≤ n → 0 ≤ R b r zs k) := Lib.hid (by rw [hv, kp_iff, hn])
  clear hn hr hr1 hbad gl ga hv
  go_enter Try.func26, Try.ntmps26
  go_wp2_with fail
  refine (HW.out _).mono ?_
  rintro e w1 ⟨rfl, hb1⟩
  have c1_0 := fun o => Below.cell hb1 (p := ⟨w.heap.size, o, none⟩) (by first | omega | exact Below.size (by assumption) | (simp; done) | (simp; omega))
  have l1_0 : w.heap.size < w1.heap.size := Nat.lt_of_lt_of_le (by first | omega | exact Below.size (by assumption) | (simp; done) | (simp; omega)) (Below.size hb1)
  have hB1 : Below w.heap.size w w1 := (by repeat (first | (with_reducible exact Below.refl _ _) | (with_reducible assumption) | (with_reducible refine Below.drew ?_) | (with_reducible refine below_drewN ?_ _) | ((with_reducible refine Below.setCell ?_ ?_ _); rotate_left; (next => first | omega | exact Nat.le_refl _ | (refine Below.size (B := ?_) ?_; rotate_left; assumption) | (simp; done) | (simp; omega))) | ((with_reducible refine Below.alloc ?_ ?_ _); rotate_left; (next => first | omega | exact Nat.le_refl _ | (refine Below.size (B := ?_) ?_; rotate_left; assumption) | (simp; done) | (simp; omega))) | ((with_reducible refine Below.trans (b := ?_) ?_ (Below.mono (B := ?_) ?_ ?_)); rotate_left 3; (next => (with_reducible assumption)); (next => first | omega | exact Nat.le_refl _ | (refine Below.size (B := ?_) ?_; rotate_left; assumption) | (simp; done) | (simp; omega))) | exact Below.refl _ _ | assumption | refine Below.drew ?_ | refine below_drewN ?_ _ | refine Below.alloc ?_ (by first | omega | exact Below.size (by assumption) | (simp; done) | (simp; omega)) _ | refine Below.setCell ?_ (by first | omega | exact Below.size (by assumption) | (simp; done) | (simp; omega)) _ | refine Below.trans ?_ (Below.mono (by assumption) (by first | omega | exact Below.size (by assumption) | (simp; done) | (simp; omega)))))
  go_wp2_with fail
  refine (HB.out _ hB1).mono ?_
  rintro e w2 ⟨rfl, rfl⟩
  go_wp2_with fail
  go_loop [6, 21] (fun rm i => ∃ k : Nat, k ≤ n ∧ i = .int .i64 k ∧ rm = .int .i64 (R b r zs k) ∧ ∀ j, 0 < j → j ≤ k → 0 ≤ R b r zs j) (fun _ i => n - (intOf i).toNat)
  case atStart => exact ⟨0, by omega, rfl, rfl, fun j h0 h1 => by omega⟩
  case round =>
    obtain ⟨k, hk, rfl, rfl, hpos⟩ := hrel
    have Hpos := Lib.hid hpos; clear hpos
    obtain ⟨q0, q1⟩ := HRb.out k
    by_cases hlt : k < n
    · have hl : k < zs.length := by have := Hn.out; omega
      obtain ⟨bb, off, rfl, hbl, hc⟩ := Hr.out.atw hB1 hl
      obtain ⟨x0, x1⟩ := HG.out _ (List.getElem_mem hl)
      have HS : Hid (R b r zs (k + 1) = min (R b r zs k) b + r - zs[k]) := Lib.hid (by rw [R, getD_of hl])
      generalize zs[k] = x at hc x0 x1 HS
      generalize hRk : R b r zs k = rk at q0 q1 HS ⊢
      clear hRk
      by_cases hmn : rk ≤ b
      · have Hm : Hid (min rk b = rk) := Lib.hid (Int.min_eq_left hmn)
        rw [Hm.out] at HS
        by_cases hneg : rk + r - x < 0
        · go_wp2_with fail
          go_ret2
          have hv : v = false := by
            cases v
            · rfl
            · have := HV.out.1 rfl (k + 1) (by omega) (by omega)
              rw [HS.out] at this; omega
          subst hv; exact ⟨rfl, (by repeat (first | (with_reducible exact Below.refl _ _) | (with_reducible assumption) | (with_reducible refine Below.drew ?_) | (with_reducible refine below_drewN ?_ _) | ((with_reducible refine Below.setCell ?_ ?_ _); rotate_left; (next => first | omega | exact Nat.le_refl _ | (refine Below.size (B := ?_) ?_; rotate_left; assumption) | (simp; done) | (simp; omega))) | ((with_reducible refine Below.alloc ?_ ?_ _); rotate_left; (next => first | omega | exact Nat.le_refl _ | (refine Below.size (B := ?_) ?_; rotate_left; assumption) | (simp; done) | (simp; omega))) | ((with_reducible refine Below.trans (b := ?_) ?_ (Below.mono (B := ?_) ?_ ?_)); rotate_left 3; (next => (with_reducible assumption)); (next => first | omega | exact Nat.le_refl _ | (refine Below.size (B := ?_) ?_; rotate_left; assumption) | (simp; done) | (simp; omega))) | exact Below.refl _ _ | assumption | refine Below.drew ?_ | refine below_drewN ?_ _ | refine Below.alloc ?_ (by first | omega | exact Below.size (by assumption) | (simp; done) | (simp; omega)) _ | refine Below.setCell ?_ (by first | omega | exact Below.size (by assumption) | (simp; done) | (simp; omega)) _ | refine Below.trans ?_ (Below.mono (by assumption) (by first | omega | exact Below.size (by assumption) | (simp; done) | (simp; omega)))))⟩
        · go_wp2_with fail
          go_round
          case rel => exact ⟨k + 1, by omega, by go_num, by rw [HS.out], fun j h0 h1 => by
            rcases Nat.lt_or_ge k j with h2 | h2
            · obtain rfl : j = k + 1 := by omega
              rw [HS.out]; omega
            · exact Hpos.out j h0 h2⟩
          case measure => first | (simp [intOf]; done) | (simp [intOf]; omega)
      · have Hm : Hid (min rk b = b) := Lib.hid (Int.min_eq_right (by omega))
        have hmn' : b < rk := by omega
        clear hmn
        rw [Hm.out] at HS
        by_cases hneg : b + r - x < 0
        · go_wp2_with fail
          go_ret2
          have hv : v = false := by
            cases v
            · rfl
            · have := HV.out.1 rfl (k + 1) (by omega) (by omega)
              rw [HS.out] at this; omega
          subst hv; exact ⟨rfl, (by repeat (first | (with_reducible exact Below.refl _ _) | (with_reducible assumption) | (with_reducible refine Below.drew ?_) | (with_reducible refine below_drewN ?_ _) | ((with_reducible refine Below.setCell ?_ ?_ _); rotate_left; (next => first | omega | exact Nat.le_refl _ | (refine Below.size (B := ?_) ?_; rotate_left; assumption) | (simp; done) | (simp; omega))) | ((with_reducible refine Below.alloc ?_ ?_ _); rotate_left; (next => first | omega | exact Nat.le_refl _ | (refine Below.size (B := ?_) ?_; rotate_left; assumption) | (simp; done) | (simp; omega))) | ((with_reducible refine Below.trans (b := ?_) ?_ (Below.mono (B := ?_) ?_ ?_)); rotate_left 3; (next => (with_reducible assumption)); (next => first | omega | exact Nat.le_refl _ | (refine Below.size (B := ?_) ?_; rotate_left; assumption) | (simp; done) | (simp; omega))) | exact Below.refl _ _ | assumption | refine Below.drew ?_ | refine below_drewN ?_ _ | refine Below.alloc ?_ (by first | omega | exact Below.size (by assumption) | (simp; done) | (simp; omega)) _ | refine Below.setCell ?_ (by first | omega | exact Below.size (by assumption) | (simp; done) | (simp; omega)) _ | refine Below.trans ?_ (Below.mono (by assumption) (by first | omega | exact Below.size (by assumption) | (simp; done) | (simp; omega)))))⟩
        · go_wp2_with fail
          go_round
          case rel => exact ⟨k + 1, by omega, by go_num, by rw [HS.out], fun j h0 h1 => by
            rcases Nat.lt_or_ge k j with h2 | h2
            · obtain rfl : j = k + 1 := by omega
              rw [HS.out]; omega
            · exact Hpos.out j h0 h2⟩
          case measure => first | (simp [intOf]; done) | (simp [intOf]; omega)
    · go_wp2_with fail
      go_ret2
      have hv : v = true := HV.out.2 fun j h0 h1 => Hpos.out j h0 (by omega)
      subst hv; exact ⟨rfl, (by repeat (first | (with_reducible exact Below.refl _ _) | (with_reducible assumption) | (with_reducible refine Below.drew ?_) | (with_reducible refine below_drewN ?_ _) | ((with_reducible refine Below.setCell ?_ ?_ _); rotate_left; (next => first | omega | exact Nat.le_refl _ | (refine Below.size (B := ?_) ?_; rotate_left; assumption) | (simp; done) | (simp; omega))) | ((with_reducible refine Below.alloc ?_ ?_ _); rotate_left; (next => first | omega | exact Nat.le_refl _ | (refine Below.size (B := ?_) ?_; rotate_left; assumption) | (simp; done) | (simp; omega))) | ((with_reducible refine Below.trans (b := ?_) ?_ (Below.mono (B := ?_) ?_ ?_)); rotate_left 3; (next => (with_reducible assumption)); (next => first | omega | exact Nat.le_refl _ | (refine Below.size (B := ?_) ?_; rotate_left; assumption) | (simp; done) | (simp; omega))) | exact Below.refl _ _ | assumption | refine Below.drew ?_ | refine below_drewN ?_ _ | refine Below.alloc ?_ (by first | omega | exact Below.size (by assumption) | (simp; done) | (simp; omega)) _ | refine Below.setCell ?_ (by first | omega | exact Below.size (by assumption) | (simp; done) | (simp; omega)) _ | refine Below.trans ?_ (Below.mono (by assumption) (by first | omega | exact Below.size (by assumption) | (simp; done) | (simp; omega)))))⟩

set_option maxHeartbeats 1000000 in
theorem kkeeps_any (v : Bool) (b r : Int) (A : Option Addr) (n c : Nat) (zs : List Int) (w : World) (hr : RdI .i64 w A zs) (hn : zs.length = n) (hb : fit20 b = true) (hr1 : fit20 r = true) (hbad : badL zs = false) (hv : v = true ↔ KP b r zs) :
    Calls Try.prog 29 #[.agg #[(.int .i64 b), (.int .i64 r)], .slice A n c] w fun e w' => e = .returned (.bool v) ∧ Below w.heap.size w w' := by
  obtain ⟨gl, ga⟩ := good_all hbad
  have hnb : n ≤ 400 := by omega
  have hb := fit20_true hb
  have hr2 := fit20_true hr1
  have HG := Lib.hid ga
  obtain ⟨b0, b1⟩ := hb
  obtain ⟨r0, r1⟩ := hr2
  have Hn := Lib.hid hn
  have Hr := Lib.hid hr
  have HV : Hid (v = true ↔ ∀ i j, i ≤ j → j < n → S zs (j + 1) - S zs i ≤ b + r * ((j : Int) - i + 1)) := Lib.hid (by rw [hv, KP, hn])
  clear hn hr hr1 hbad gl ga hv
  go_enter Try.func29, Try.ntmps29
  go_wp2_with fail
  generalize hW : World.alloc w _ = W0
  have hb0 := named hW
  clear hW
  have c0_0 := fun o => Below.cell hb0 (p := ⟨w.heap.size, o, none⟩) (by first | omega | exact Below.size (by assumption) | (simp; done) | (simp; omega))
  have l0_0 : w.heap.size < W0.heap.size := Nat.lt_of_lt_of_le (by first | omega | exact Below.size (by assumption) | (simp; done) | (simp; omega)) (Below.size hb0)
  have hB0 : Below w.heap.size w W0 := (by repeat (first | (with_reducible exact Below.refl _ _) | (with_reducible assumption) | (with_reducible refine Below.drew ?_) | (with_reducible refine below_drewN ?_ _) | ((with_reducible refine Below.setCell ?_ ?_ _); rotate_left; (next => first | omega | exact Nat.le_refl _ | (refine Below.size (B := ?_) ?_; rotate_left; assumption) | (simp; done) | (simp; omega))) | ((with_reducible refine Below.alloc ?_ ?_ _); rotate_left; (next => first | omega | exact Nat.le_refl _ | (refine Below.size (B := ?_) ?_; rotate_left; assumption) | (simp; done) | (simp; omega))) | ((with_reducible refine Below.trans (b := ?_) ?_ (Below.mono (B := ?_) ?_ ?_)); rotate_left 3; (next => (with_reducible assumption)); (next => first | omega | exact Nat.le_refl _ | (refine Below.size (B := ?_) ?_; rotate_left; assumption) | (simp; done) | (simp; omega))) | exact Below.refl _ _ | assumption | refine Below.drew ?_ | refine below_drewN ?_ _ | refine Below.alloc ?_ (by first | omega | exact Below.size (by assumption) | (simp; done) | (simp; omega)) _ | refine Below.setCell ?_ (by first | omega | exact Below.size (by assumption) | (simp; done) | (simp; omega)) _ | refine Below.trans ?_ (Below.mono (by assumption) (by first | omega | exact Below.size (by assumption) | (simp; done) | (simp; omega)))))
  go_loop [10] (fun i => ∃ k : Nat, k ≤ n ∧ i = .int .i64 k ∧ ∀ i' j, i' < k → i' ≤ j → j < n → S zs (j + 1) - S zs i' ≤ b + r * ((j : Int) - i' + 1)) (fun i => n - (intOf i).toNat)
  case atStart => exact ⟨0, by omega, rfl, fun i' j h => by omega⟩
  case round =>
    obtain ⟨i, hi, rfl, hpre⟩ := hrel
    have Hpre := Lib.hid hpre; clear hpre
    by_cases hlt : i < n
    · go_wp2_with fail
      go_loop [6, 7] (fun s jv => ∃ j : Nat, i ≤ j ∧ j ≤ n ∧ jv = .int .i64 j ∧ s = .int .i64 (S zs j - S zs i) ∧ ∀ j', i ≤ j' → j' < j → S zs (j' + 1) - S zs i ≤ b + r * ((j' : Int) - i + 1)) (fun _ j => n - (intOf j).toNat)
      case atStart => exact ⟨i, Nat.le_refl _, by omega, rfl, by rw [Int.sub_self], fun j' h1 h2 => by omega⟩
      case round =>
        obtain ⟨j, hij, hj, rfl, rfl, hin⟩ := hrel
        have Hin := Lib.hid hin; clear hin
        obtain ⟨s0, s1⟩ := S_mono HG.out i (j - i)
        rw [show i + (j - i) = j from by omega] at s0 s1
        by_cases hltj : j < n
        · have hl : j < zs.length := by have := Hn.out; omega
          obtain ⟨bb, off, rfl, hbl, hc⟩ := Hr.out.atw hB0 hl
          obtain ⟨x0, x1⟩ := HG.out _ (List.getElem_mem hl)
          have HS : Hid (S zs (j + 1) - S zs i = S zs j - S zs i + zs[j]) := Lib.hid (by rw [S, getD_of hl]; omega)
          generalize zs[j] = x at hc x0 x1 HS
          have p0 : 0 ≤ r * ((j : Int) - i + 1) := Int.mul_nonneg r0 (by omega)
          have p1 : r * ((j : Int) - i + 1) ≤ 1048576 * 400 := Int.mul_le_mul r1 (by omega) (by omega) (by omega)
          obtain ⟨sv, Hsv⟩ : ∃ sv, Hid (S zs j - S zs i = sv) := ⟨_, Lib.hid rfl⟩
          have s2 : 0 ≤ sv := by rw [← Hsv.out]; omega
          have s3 : sv ≤ 1048576 * 400 := by rw [← Hsv.out]; omega
          rw [Hsv.out] at HS ⊢
          clear s0 s1
          by_cases hbig : b + r * ((j : Int) - i + 1) < sv + x
          · go_wp2_with fail
            go_ret
            have hv : v = false := by
              cases v
              · rfl
              · have := HV.out.1 rfl i j hij hltj
                rw [HS.out] at this; omega
            subst hv; exact ⟨rfl, hB0⟩
          · go_wp2_with fail
            go_round
            case rel => exact ⟨j + 1, by omega, by omega, by go_num, by rw [HS.out], fun j' h1 h2 => by
              rcases Nat.lt_or_ge j' j with h3 | h3
              · exact Hin.out j' h1 h3
              · obtain rfl : j' = j := by omega
                rw [HS.out]; omega⟩
            case measure => first | (simp [intOf]; done) | (simp [intOf]; omega)
        · go_wp2_with fail
          go_round
          case rel => exact ⟨i + 1, by omega, by go_num, fun i' j' h1 h2 h3 => by
            rcases Nat.lt_or_ge i' i with h4 | h4
            · exact Hpre.out i' j' h4 h2 h3
            · obtain rfl : i' = i := by omega
              exact Hin.out j' h2 (by omega)⟩
          case measure => first | (simp [intOf]; done) | (simp [intOf]; omega)
    · go_wp2_with fail
      go_ret
      have hv : v = true := HV.out.2 fun i' j' h1 h2 => Hpre.out i' j' (by omega) h1 h2
      subst hv; exact ⟨rfl, hB0⟩
end Go.Proofs.Ytlmnlffbbbcodaa.CurveS
