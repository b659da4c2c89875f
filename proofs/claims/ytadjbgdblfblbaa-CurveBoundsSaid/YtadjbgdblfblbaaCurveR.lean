/- Walks of the reference's KFits and KDelay. -/
import Derived.Test.YtadjbgdblfblbaaCurveA
namespace Go.Proofs.Ytadjbgdblfblbaa
open Go.RowKit

theorem all_snoc (zs : List Int) (k : Nat) (h : k < zs.length) : (zs.take (k + 1)).all fit20 = ((zs.take k).all fit20 && fit20 zs[k]) := by
  rw [List.take_succ_eq_append_getElem h, List.all_append]
  simp

set_option maxHeartbeats 400000 in
theorem kfits_any (A : Option Addr) (n c : Nat) (zs : List Int) (w : World) (hr : RdI .i64 w A zs) (hn : zs.length = n) (hm : n ≤ 140737488355328) :
    Calls Try.prog 30 #[.slice A n c] w fun e w' => e = .returned (.bool (zs.all fit20)) ∧ w = w' := by
  have Hn := Lib.hid hn; clear hn
  go_enter Try.func30, Try.ntmps30
  go_wp2
  go_loop [7] (fun i => ∃ k : Nat, k ≤ n ∧ i = .int .i64 k ∧ (zs.take k).all fit20 = true) (fun i => n - (intOf i).toNat)
  case atStart => exact ⟨0, by omega, rfl, rfl⟩
  case round =>
    obtain ⟨k, hk, rfl, ha⟩ := hrel
    have Ha := Lib.hid ha; clear ha
    by_cases hlt : k < n
    · have hl : k < zs.length := by have := Hn.out; omega
      obtain ⟨b, off, rfl, hc⟩ := hr.at_ hl
      obtain ⟨x, Hx⟩ : ∃ x, Hid (zs[k] = x) := ⟨_, Lib.hid rfl⟩
      rw [Hx.out] at hc
      by_cases hx : fit20 x = true
      · obtain ⟨x0, x1⟩ := fit20_true hx
        have Hf := Lib.hid hx; clear hx
        go_wp2
        go_round
        case rel => exact ⟨k + 1, by omega, by go_num, by rw [all_snoc zs k hl, Ha.out, Hx.out, Hf.out]; rfl⟩
        case measure => simp [intOf]; omega
      · have hx' : fit20 x = false := by simpa using hx
        have hor := fit20_false hx'
        have Hf : Hid (zs.all fit20 = false) := by
          apply Lib.hid
          rw [List.all_eq_false]
          exact ⟨zs[k], List.getElem_mem hl, by rw [Hx.out, hx']; simp⟩
        clear hx hx'
        by_cases h0 : x < 0
        · clear hor
          go_wp2
          go_ret
          exact ⟨ret_bool (by rw [Hf.out]), rfl⟩
        · have h1 : 1048576 < x := by omega
          clear hor
          go_wp2
          go_ret
          exact ⟨ret_bool (by rw [Hf.out]), rfl⟩
    · go_wp2
      go_ret
      exact ⟨ret_bool (by rw [List.take_of_length_le (by have := Hn.out; omega)] at Ha; rw [Ha.out]), rfl⟩

theorem kd_step {left s many : Int} (hs : 1 ≤ s) : (left - many * s - 1) / s = (left - 1) / s - many := by
  rw [show left - many * s - 1 = (left - 1) + (-many) * s from by rw [Int.neg_mul]; omega, Int.add_mul_ediv_right _ _ (by omega)]
  omega

set_option maxHeartbeats 1000000 in
theorem kdelay_ok (b r l s : Int) (w : World) (h : own4 b r l s = true) (hn : b + r ≠ 0) (hr : r ≤ s) (hs : s ≠ 0) : Calls Try.prog 32 #[.agg #[.int .i64 b, .int .i64 r], .agg #[.int .i64 l, .int .i64 s]] w fun e w' =>
    e = .returned (.int .i64 (l + (b + r - 1) / s)) ∧ Below w.heap.size w w' := by
  simp only [own4, Bool.and_eq_true] at h
  obtain ⟨⟨⟨hb, hr'⟩, hl⟩, hs'⟩ := h
  obtain ⟨hb0, hb1⟩ := fit20_true hb
  obtain ⟨hr0, hr1⟩ := fit20_true hr'
  obtain ⟨hl0, hl1⟩ := fit20_true hl
  obtain ⟨hs0, hs1⟩ := fit20_true hs'
  clear hb hr' hl hs'
  have hs2 : 1 ≤ s := by omega
  have hor : ((b == 0) = false) ∨ ((b == 0) = true ∧ (r == 0) = false) := by
    by_cases h0 : b = 0
    · exact .inr ⟨by simpa using h0, by simp; omega⟩
    · exact .inl (by simpa using h0)
  have Hn := Lib.hid hn; clear hn hs
  rcases hor with e1 | ⟨e1, e2⟩
  all_goals
    go_enter Try.func32, Try.ntmps32
    go_wp2
    go_loop [5, 6] (fun d t => ∃ D T : Int, d = .int .i64 D ∧ t = .int .i64 T ∧ 1 ≤ T ∧ T ≤ 2097152 ∧ 0 ≤ D ∧ D + (T - 1) / s = l + (b + r - 1) / s) (fun _ t => (intOf t).toNat)
    case atStart => exact ⟨l, b + r, rfl, rfl, by have := Hn.out; omega, by omega, by omega, rfl⟩
    case round =>
      obtain ⟨D, T, rfl, rfl, hT0, hT1, hD0, he⟩ := hrel
      have hx0 : 0 ≤ (T - 1) / s := Int.ediv_nonneg (by omega) (by omega)
      have hx1 : (b + r - 1) / s ≤ 2097152 := by
        have := Int.ediv_le_self (a := b + r - 1) s (by have := Hn.out; omega)
        omega
      have hD1 : D ≤ 4194304 := by omega
      have He := Lib.hid he; clear he hx0 hx1
      by_cases hTs : T ≤ s
      · have Hz : Hid ((T - 1) / s = 0) := Lib.hid (Int.ediv_eq_zero_of_lt (by omega) (by omega))
        go_wp2
        go_ret
        exact ⟨ret_int (by rw [← He.out, Hz.out]; omega), (by repeat (first | exact Below.refl _ _ | assumption | refine Below.drew ?_ | refine below_drewN ?_ _ | refine Below.alloc ?_ (by first | omega | (simp; done) | (simp; omega)) _ | refine Below.setCell ?_ (by first | omega | (simp; done) | (simp; omega)) _ | refine Below.trans ?_ (Below.mono (by assumption) (by first | omega | (simp; done) | (simp; omega)))))⟩
      · have hp1 : T / s * s ≤ T := Int.ediv_mul_le T (by omega)
        have hp2 : T < T / s * s + s := by
          have := Int.lt_ediv_add_one_mul_self T (show 0 < s by omega)
          rwa [Int.add_mul, Int.one_mul] at this
        by_cases hbig : 1000 * s < T
        · have E1 : Hid ((T / s - 2 - 1) * s = T / s * s - 3 * s) := Lib.hid (by rw [Int.sub_mul, Int.sub_mul]; omega)
          have E2 : Hid ((T / s - 2) * s = T / s * s - 2 * s) := Lib.hid (by rw [Int.sub_mul])
          have hq0 : 0 ≤ (T / s - 2 - 1) * s := by rw [E1.out]; omega
          have hq1 : (T / s - 2 - 1) * s ≤ T - 2 * s := by rw [E1.out]; omega
          have hq2 : T - 4 * s ≤ (T / s - 2 - 1) * s := by rw [E1.out]; omega
          have hq3 : T / s ≤ 2097152 := by
            have := Int.ediv_le_self (a := T) s (by omega)
            omega
          have hq4 : 900 ≤ T / s := Int.le_ediv_of_mul_le (by omega) (by omega)
          clear hp1 hp2
          go_wp2
          go_round
          case rel => exact ⟨D + (T / s - 2 - 1) + 1, T - (T / s - 2 - 1) * s - s, rfl, rfl, by omega, by omega, by omega, by
            have := kd_step (left := T) (many := T / s - 2) hs2
            rw [E2.out] at this
            rw [E1.out, ← He.out, show T - (T / s * s - 3 * s) - s = T - (T / s * s - 2 * s) from by omega, this]
            omega⟩
          case measure => simp [intOf]; omega
        · clear hp1 hp2
          go_wp2
          go_round
          case rel => exact ⟨D + 1, T - s, rfl, rfl, by omega, by omega, by omega, by
            have := kd_step (left := T) (many := 1) hs2
            rw [Int.one_mul] at this
            rw [← He.out, this]
            omega⟩
          case measure => simp [intOf]; omega

set_option maxHeartbeats 1000000 in
theorem kdelay_zero (l s : Int) (w : World) : Calls Try.prog 32 #[.agg #[.int .i64 0, .int .i64 0], .agg #[.int .i64 l, .int .i64 s]] w fun e w' =>
    e = .returned (.int .i64 0) ∧ Below w.heap.size w w' := by
  go_enter Try.func32, Try.ntmps32
  go_wp2
  go_ret
  exact ⟨rfl, (by repeat (first | exact Below.refl _ _ | assumption | refine Below.drew ?_ | refine below_drewN ?_ _ | refine Below.alloc ?_ (by first | omega | (simp; done) | (simp; omega)) _ | refine Below.setCell ?_ (by first | omega | (simp; done) | (simp; omega)) _ | refine Below.trans ?_ (Below.mono (by assumption) (by first | omega | (simp; done) | (simp; omega)))))⟩

set_option maxHeartbeats 1000000 in
theorem kdelay_none (b r l s : Int) (w : World) (hn : b + r ≠ 0) (hnn : 0 ≤ b ∧ 0 ≤ r ∧ 0 ≤ s) (hrs : s < r ∨ s = 0) : Calls Try.prog 32 #[.agg #[.int .i64 b, .int .i64 r], .agg #[.int .i64 l, .int .i64 s]] w fun e w' =>
    e = .returned (.int .i64 (-1)) ∧ Below w.heap.size w w' := by
  obtain ⟨h0, h1, hs⟩ := hnn
  have hor : ((b == 0) = false) ∨ ((b == 0) = true ∧ (r == 0) = false) := by
    by_cases h0 : b = 0
    · exact .inr ⟨by simpa using h0, by simp; omega⟩
    · exact .inl (by simpa using h0)
  have hor2 : s < r ∨ (¬ s < r ∧ s < 1) := by omega
  clear hrs hn
  rcases hor with e1 | ⟨e1, e2⟩ <;> rcases hor2 with e3 | ⟨e3, e4⟩
  all_goals
    go_enter Try.func32, Try.ntmps32
    go_wp2
    go_ret
    exact ⟨rfl, (by repeat (first | exact Below.refl _ _ | assumption | refine Below.drew ?_ | refine below_drewN ?_ _ | refine Below.alloc ?_ (by first | omega | (simp; done) | (simp; omega)) _ | refine Below.setCell ?_ (by first | omega | (simp; done) | (simp; omega)) _ | refine Below.trans ?_ (Below.mono (by assumption) (by first | omega | (simp; done) | (simp; omega)))))⟩
end Go.Proofs.Ytadjbgdblfblbaa
