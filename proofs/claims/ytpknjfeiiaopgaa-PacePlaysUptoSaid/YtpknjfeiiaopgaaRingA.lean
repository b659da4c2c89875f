/- Walks: ring.sum, Right, the closure of Step; the reference's HBytes, HRight. -/
import Derived.Test.YtpknjfeiiaopgaaRingM
import Derived.Test.YtpknjfeiiaopgaaIntFn
import Derived.Test.YtpknjfeiiaopgaaMemC
import Derived.Test.YtpknjfeiiaopgaaReg
import Derived.Outline
namespace Go.Proofs.Ytpknjfeiiaopgaa.Ring
open Go.RowKit

set_option maxHeartbeats 1000000 in
theorem sum_any (A : Option Addr) (n c : Nat) (zs : List Int) (w : World) (hr : RdI .i64 w A zs) (hn : zs.length = n) (hm : n ≤ 1000000000) (hall : zs.all okp = true) :
    Calls Try.prog 126 #[.slice A n c] w fun e w' => e = .returned (.int .i64 (tot zs)) ∧ w = w' := by
  have Hn := Lib.hid hn
  have Hall := Lib.hid hall
  clear hn hall
  go_enter Try.func126, Try.ntmps126
  go_wp2_with fail
  go_loop [3, 8] (fun s i => ∃ k : Nat, k ≤ n ∧ i = .int .i64 k ∧ s = .int .i64 (tot (zs.take k))) (fun _ i => n - (intOf i).toNat)
  case atStart => exact ⟨0, by omega, rfl, rfl⟩
  case round =>
    obtain ⟨k, hk, rfl, rfl⟩ := hrel
    have hb := tot_bd (l := zs.take k) (by rw [List.all_eq_true]; exact fun x hx => List.all_eq_true.1 Hall.out x (List.mem_of_mem_take hx))
    have hb2 : (zs.take k).length ≤ k := List.length_take_le _ _
    obtain ⟨b0, b1⟩ := hb
    by_cases hlt : k < n
    · have hl : k < zs.length := by have := Hn.out; omega
      obtain ⟨bb, off, rfl, hc⟩ := hr.at_ hl
      obtain ⟨x0, x1⟩ := okp_iff.1 (List.all_eq_true.1 Hall.out _ (List.getElem_mem hl))
      have Ht := Lib.hid (tot_take hl)
      generalize zs[k] = x at hc x0 x1 Ht
      generalize tot (zs.take k) = s at b0 b1 Ht ⊢
      have b2 : s ≤ 1500 * 1000000000 := by omega
      clear b1 hb2
      go_wp2_with fail
      go_round
      case rel => exact ⟨k + 1, by omega, by go_num, by rw [Ht.out]⟩
      case measure => first | (simp [intOf]; done) | (simp [intOf]; omega)
    · have Hf : Hid (tot zs = tot (zs.take k)) := Lib.hid (by rw [List.take_of_length_le (by have := Hn.out; omega)])
      go_wp2_with fail
      go_ret
      exact ⟨ret_int Hf.out.symm, rfl⟩

set_option maxRecDepth 100000 in
set_option maxHeartbeats 2000000 in
theorem right_any (A : Option Addr) (n c : Nat) (zs : List Int) (most mb drops : Int) (w : World) (hr : RdI .i64 w A zs) (hn : zs.length = n) (hm : n ≤ 140737488355328) :
    Calls Try.prog 125 #[.agg #[.slice A n c, (.int .i64 most), (.int .i64 mb), (.int .i64 drops)]] w fun e w' => e = .returned (.bool (right zs most mb drops)) ∧ Below w.heap.size w w' := by
  cases hh : hd n most mb drops
  · have hn2 := hd_not hh
    have HV : Hid (right zs most mb drops = false) := Lib.hid (by rw [right, hn, hh]; rfl)
    clear hr hn hm hh
    rcases hn2 with h1 | ⟨h1, h2⟩ | ⟨h1, h2, h3⟩ | ⟨h1, h2, h3, h4⟩ | ⟨h1, h2, h3, h4, h5⟩ | ⟨h1, h2, h3, h4, h5, h6⟩ | ⟨h1, h2, h3, h4, h5, h6, h7⟩
    all_goals
      go_enter Try.func125, Try.ntmps125
      go_wp2_with fail
      go_ret
      exact ⟨ret_bool HV.out.symm, (by repeat (first | (with_reducible exact Below.refl _ _) | (with_reducible assumption) | (with_reducible refine Below.drew ?_) | (with_reducible refine below_drewN ?_ _) | ((with_reducible refine Below.setCell ?_ ?_ _); rotate_left; (next => first | omega | exact Nat.le_refl _ | (refine Below.size (B := ?_) ?_; rotate_left; assumption) | (simp; done) | (simp; omega))) | ((with_reducible refine Below.alloc ?_ ?_ _); rotate_left; (next => first | omega | exact Nat.le_refl _ | (refine Below.size (B := ?_) ?_; rotate_left; assumption) | (simp; done) | (simp; omega))) | ((with_reducible refine Below.trans (b := ?_) ?_ (Below.mono (B := ?_) ?_ ?_)); rotate_left 3; (next => (with_reducible assumption)); (next => first | omega | exact Nat.le_refl _ | (refine Below.size (B := ?_) ?_; rotate_left; assumption) | (simp; done) | (simp; omega))) | exact Below.refl _ _ | assumption | refine Below.drew ?_ | refine below_drewN ?_ _ | refine Below.alloc ?_ (by first | omega | exact Below.size (by assumption) | (simp; done) | (simp; omega)) _ | refine Below.setCell ?_ (by first | omega | exact Below.size (by assumption) | (simp; done) | (simp; omega)) _ | refine Below.trans ?_ (Below.mono (by assumption) (by first | omega | exact Below.size (by assumption) | (simp; done) | (simp; omega)))))⟩
  · obtain ⟨⟨h1, h2⟩, ⟨h3, h4⟩, ⟨h5, h6⟩, h7⟩ := hd_iff.1 hh
    have HV : Hid (right zs most mb drops = (zs.all okp && decide (tot zs ≤ mb))) := Lib.hid (by rw [right, hn, hh, Bool.true_and])
    have HS : Hid (zs.all okp = true → ∀ W, Below w.heap.size w W → Calls Try.prog 126 #[.slice A n c] W fun e w' => e = .returned (.int .i64 (tot zs)) ∧ W = w') := Lib.hid fun ha W hW => sum_any A n c zs W (hr.below hW) hn (by omega) ha
    have Hn := Lib.hid hn
    clear hn hh
    go_enter Try.func125, Try.ntmps125
    go_wp2_with fail
    generalize hW : World.alloc w _ = W0
    have hb0 := named hW
    clear hW
    have c0_0 := fun o => Below.cell hb0 (p := ⟨w.heap.size, o, none⟩) (by first | omega | exact Below.size (by assumption) | (simp; done) | (simp; omega))
    have l0_0 : w.heap.size < W0.heap.size := Nat.lt_of_lt_of_le (by first | omega | exact Below.size (by assumption) | (simp; done) | (simp; omega)) (Below.size hb0)
    have hB0 : Below w.heap.size w W0 := (by repeat (first | (with_reducible exact Below.refl _ _) | (with_reducible assumption) | (with_reducible refine Below.drew ?_) | (with_reducible refine below_drewN ?_ _) | ((with_reducible refine Below.setCell ?_ ?_ _); rotate_left; (next => first | omega | exact Nat.le_refl _ | (refine Below.size (B := ?_) ?_; rotate_left; assumption) | (simp; done) | (simp; omega))) | ((with_reducible refine Below.alloc ?_ ?_ _); rotate_left; (next => first | omega | exact Nat.le_refl _ | (refine Below.size (B := ?_) ?_; rotate_left; assumption) | (simp; done) | (simp; omega))) | ((with_reducible refine Below.trans (b := ?_) ?_ (Below.mono (B := ?_) ?_ ?_)); rotate_left 3; (next => (with_reducible assumption)); (next => first | omega | exact Nat.le_refl _ | (refine Below.size (B := ?_) ?_; rotate_left; assumption) | (simp; done) | (simp; omega))) | exact Below.refl _ _ | assumption | refine Below.drew ?_ | refine below_drewN ?_ _ | refine Below.alloc ?_ (by first | omega | exact Below.size (by assumption) | (simp; done) | (simp; omega)) _ | refine Below.setCell ?_ (by first | omega | exact Below.size (by assumption) | (simp; done) | (simp; omega)) _ | refine Below.trans ?_ (Below.mono (by assumption) (by first | omega | exact Below.size (by assumption) | (simp; done) | (simp; omega)))))
    go_loop [44] (fun i => ∃ k : Nat, k ≤ n ∧ i = .int .i64 k ∧ (zs.take k).all okp = true) (fun i => n - (intOf i).toNat)
    case atStart => exact ⟨0, by omega, rfl, rfl⟩
    case round =>
      obtain ⟨k, hk, rfl, ha⟩ := hrel
      have Ha := Lib.hid ha; clear ha
      by_cases hlt : k < n
      · have hl : k < zs.length := by have := Hn.out; omega
        obtain ⟨bb, off, rfl, hbl, hc⟩ := hr.atw hB0 hl
        have Hal := Lib.hid (all_take (p := okp) hl)
        obtain ⟨x, Hx⟩ : ∃ x, Hid (zs[k] = x) := ⟨_, Lib.hid rfl⟩
        rw [Hx.out] at hc Hal
        by_cases hx : 1 ≤ x ∧ x ≤ 1500
        · obtain ⟨x0, x1⟩ := hx
          have Ho : Hid (okp x = true) := Lib.hid (okp_iff.2 ⟨x0, x1⟩)
          go_wp2_with fail
          go_round
          case rel => exact ⟨k + 1, by omega, by go_num, by rw [Hal.out, Ha.out, Ho.out]; rfl⟩
          case measure => first | (simp [intOf]; done) | (simp [intOf]; omega)
        · have Ho : Hid (right zs most mb drops = false) := Lib.hid (by
            rw [HV.out, List.all_eq_false.2 ⟨zs[k], List.getElem_mem hl, by rw [Hx.out]; simp only [okp_iff]; exact hx⟩]; rfl)
          by_cases hx0 : x < 1
          · go_wp2_with fail
            go_ret
            exact ⟨ret_bool Ho.out.symm, hB0⟩
          · have hx1 : 1500 < x := by omega
            go_wp2_with fail
            go_ret
            exact ⟨ret_bool Ho.out.symm, hB0⟩
      · have Hall : Hid (zs.all okp = true) := Lib.hid (by have := Ha.out; rwa [List.take_of_length_le (by have := Hn.out; omega)] at this)
        have HSs : Hid (∀ i : Since W0, Calls Try.prog 126 #[.slice A n c] i.val fun e w' => e = .returned (.int .i64 (tot zs)) ∧ Below i.val.heap.size i.val w') := Lib.hid fun i => (HS.out Hall.out i.val (hB0.trans (i.property.mono hB0.size))).mono fun e w' ⟨h1, h2⟩ => ⟨h1, h2 ▸ Below.refl _ _⟩
        have s0 : ∀ (i : Since W0) o, i.val.cell? ⟨w.heap.size, o, none⟩ = (#[.slice A n c, (.int .i64 most), (.int .i64 mb), (.int .i64 drops)] : Array Value)[o]? := fun i o => (since_cell i l0_0 o).trans ((c0_0 o).trans (by simp [go_sem]))
        have HV2 : Hid (right zs most mb drops = decide (tot zs ≤ mb)) := Lib.hid (by rw [HV.out, Hall.out, Bool.true_and])
        go_wp2_with fail
        try dsimp only [List.append]
        refine wp_region_since W0 (Below.refl _ _) (by kernel_rfl) (by kernel_rfl) ?_
        repeat (go_big_quiet_step ((go_at_call 126; exact Calls.since (HSs.out _))))
        refine wpQuiet_nil ?_
        rintro w5 ⟨i5, hi5⟩
        have hb5 : Below W0.heap.size W0 w5 := hi5 ▸ i5.property
        clear hi5 i5 s0
        go_wp2_with fail
        go_ret
        exact ⟨ret_bool HV2.out.symm, hB0.trans (hb5.mono hB0.size)⟩

set_option maxRecDepth 100000 in
set_option maxHeartbeats 1000000 in
theorem hbytes_any (A : Option Addr) (n c : Nat) (zs : List Int) (most mb drops : Int) (w : World) (hr : RdI .i64 w A zs) (hn : zs.length = n) (hm : n ≤ 140737488355328) :
    Calls Try.prog 69 #[.agg #[.slice A n c, (.int .i64 most), (.int .i64 mb), (.int .i64 drops)]] w fun e w' => e = .returned ((.int .i64 (hbytes zs))) ∧ Below w.heap.size w w' := by
  have Hn := Lib.hid hn
  clear hn
  go_enter Try.func69, Try.ntmps69
  go_wp2_with fail
  generalize hW : World.alloc w _ = W0
  have hb0 := named hW
  clear hW
  have c0_0 := fun o => Below.cell hb0 (p := ⟨w.heap.size, o, none⟩) (by first | omega | exact Below.size (by assumption) | (simp; done) | (simp; omega))
  have l0_0 : w.heap.size < W0.heap.size := Nat.lt_of_lt_of_le (by first | omega | exact Below.size (by assumption) | (simp; done) | (simp; omega)) (Below.size hb0)
  have hB0 : Below w.heap.size w W0 := (by repeat (first | (with_reducible exact Below.refl _ _) | (with_reducible assumption) | (with_reducible refine Below.drew ?_) | (with_reducible refine below_drewN ?_ _) | ((with_reducible refine Below.setCell ?_ ?_ _); rotate_left; (next => first | omega | exact Nat.le_refl _ | (refine Below.size (B := ?_) ?_; rotate_left; assumption) | (simp; done) | (simp; omega))) | ((with_reducible refine Below.alloc ?_ ?_ _); rotate_left; (next => first | omega | exact Nat.le_refl _ | (refine Below.size (B := ?_) ?_; rotate_left; assumption) | (simp; done) | (simp; omega))) | ((with_reducible refine Below.trans (b := ?_) ?_ (Below.mono (B := ?_) ?_ ?_)); rotate_left 3; (next => (with_reducible assumption)); (next => first | omega | exact Nat.le_refl _ | (refine Below.size (B := ?_) ?_; rotate_left; assumption) | (simp; done) | (simp; omega))) | exact Below.refl _ _ | assumption | refine Below.drew ?_ | refine below_drewN ?_ _ | refine Below.alloc ?_ (by first | omega | exact Below.size (by assumption) | (simp; done) | (simp; omega)) _ | refine Below.setCell ?_ (by first | omega | exact Below.size (by assumption) | (simp; done) | (simp; omega)) _ | refine Below.trans ?_ (Below.mono (by assumption) (by first | omega | exact Below.size (by assumption) | (simp; done) | (simp; omega)))))
  go_loop [3, 9] (fun s i => ∃ k : Nat, k ≤ n ∧ i = .int .i64 k ∧ s = .int .i64 (tot (zs.take k)) ∧ (zs.take k).all okp = true) (fun _ i => n - (intOf i).toNat)
  case atStart => exact ⟨0, by omega, rfl, rfl, rfl⟩
  case round =>
    obtain ⟨k, hk, rfl, rfl, ha⟩ := hrel
    obtain ⟨b0, b1⟩ := tot_bd ha
    have hb2 : (zs.take k).length ≤ k := List.length_take_le _ _
    have Ha := Lib.hid ha; clear ha
    by_cases hlt : k < n
    · have hl : k < zs.length := by have := Hn.out; omega
      obtain ⟨bb, off, rfl, hbl, hc⟩ := hr.atw hB0 hl
      have Hal := Lib.hid (all_take (p := okp) hl)
      have Ht := Lib.hid (tot_take hl)
      obtain ⟨x, Hx⟩ : ∃ x, Hid (zs[k] = x) := ⟨_, Lib.hid rfl⟩
      rw [Hx.out] at hc Hal Ht
      have b3 : tot (zs.take k) ≤ 1500 * 140737488355328 := by omega
      clear b1 hb2
      generalize tot (zs.take k) = s at b0 b3 Ht ⊢
      by_cases hx : 1 ≤ x ∧ x ≤ 1500
      · obtain ⟨x0, x1⟩ := hx
        have Ho : Hid (okp x = true) := Lib.hid (okp_iff.2 ⟨x0, x1⟩)
        go_wp2_with fail
        go_round
        case rel => exact ⟨k + 1, by omega, by go_num, by rw [Ht.out], by rw [Hal.out, Ha.out, Ho.out]; rfl⟩
        case measure => first | (simp [intOf]; done) | (simp [intOf]; omega)
      · have Ho : Hid (hbytes zs = -1) := Lib.hid (by
          rw [hbytes, List.all_eq_false.2 ⟨zs[k], List.getElem_mem hl, by rw [Hx.out]; simp only [okp_iff]; exact hx⟩]; rfl)
        by_cases hx0 : x < 1
        · go_wp2_with fail
          go_ret
          exact ⟨ret_int Ho.out.symm, hB0⟩
        · have hx1 : 1500 < x := by omega
          go_wp2_with fail
          go_ret
          exact ⟨ret_int Ho.out.symm, hB0⟩
    · have Hf : Hid (hbytes zs = tot (zs.take k)) := Lib.hid (by
        have h1 := Ha.out
        rw [List.take_of_length_le (by have := Hn.out; omega)] at h1 ⊢
        rw [hbytes, h1]; rfl)
      go_wp2_with fail
      go_ret
      exact ⟨ret_int Hf.out.symm, hB0⟩

theorem hbytes_bd {zs : List Int} (hm : zs.length ≤ 140737488355328) : -1 ≤ hbytes zs ∧ hbytes zs ≤ 1500 * 140737488355328 := by
  unfold hbytes
  cases h : zs.all okp
  · simp
  · have := tot_bd h
    simp only [if_true]
    omega



theorem infoQ : (Try.prog.info? 56).map (·.size) = some 4 := by kernel_rfl

set_option maxRecDepth 100000 in
set_option maxHeartbeats 1000000 in
theorem no_any (er : Int) (w : World) : Calls Try.prog 124 #[(.int .i64 er)] w fun e w' => e = .returned (.tuple #[.agg #[.slice none 0 0, (.int .i64 0), (.int .i64 0), (.int .i64 0)], (.int .i64 0), (.int .i64 er)]) ∧ Below w.heap.size w w' := by
  go_enter Try.func124, Try.ntmps124
  go_wp2_with fail
  refine bodyPost_ret (v := .tuple #[.agg #[.slice none 0 0, (.int .i64 0), (.int .i64 0), (.int .i64 0)], (.int .i64 0), (.int .i64 er)]) (by simp [results, Try.results124, go_sem, *]) rfl ?_
  exact ⟨rfl, (by repeat (first | (with_reducible exact Below.refl _ _) | (with_reducible assumption) | (with_reducible refine Below.drew ?_) | (with_reducible refine below_drewN ?_ _) | ((with_reducible refine Below.setCell ?_ ?_ _); rotate_left; (next => first | omega | exact Nat.le_refl _ | (refine Below.size (B := ?_) ?_; rotate_left; assumption) | (simp; done) | (simp; omega))) | ((with_reducible refine Below.alloc ?_ ?_ _); rotate_left; (next => first | omega | exact Nat.le_refl _ | (refine Below.size (B := ?_) ?_; rotate_left; assumption) | (simp; done) | (simp; omega))) | ((with_reducible refine Below.trans (b := ?_) ?_ (Below.mono (B := ?_) ?_ ?_)); rotate_left 3; (next => (with_reducible assumption)); (next => first | omega | exact Nat.le_refl _ | (refine Below.size (B := ?_) ?_; rotate_left; assumption) | (simp; done) | (simp; omega)))))⟩
end Go.Proofs.Ytpknjfeiiaopgaa.Ring
