/- The walk of the law LindleyWaits. -/
import Derived.Test.YtlmnlffbbbcodaaLindleyR
namespace Go.Proofs.Ytlmnlffbbbcodaa.LindleyWaits
open Go.RowKit Go.Proofs.Ytlmnlffbbbcodaa.Lindley

set_option maxRecDepth 100000 in
set_option maxHeartbeats 2000000 in
theorem walk_err (A : Option Addr) (n c : Nat) (l : List (Int × Int)) (t : Int) (w : World) (hr : Rd w A (l.flatMap c2)) (hn : l.length = n) (hm : n ≤ 140737488355328) (h : (wrongX l == 0) = false) :
    Calls Try.prog 3 #[.slice A n c, .int .i64 t] w fun e w' => e = .returned (.bool true) ∧ Below w.heap.size w w' := by
  have H1 : Hid (∀ W, Below w.heap.size w W → Calls Try.prog 15 #[.slice A n c] W fun e w' => e = .returned (.tuple #[.slice none 0 0, .int .i64 (wrongX l)]) ∧ Below W.heap.size W w') := Lib.hid fun W hW => waits_err A n c l W (hr.below hW) hn hm h
  have H2 : Hid (∀ W, Below w.heap.size w W → Calls Try.prog 16 #[.slice A n c, .int .i64 t] W fun e w' => e = .returned (.tuple #[.int .i64 0, .int .i64 (wrongX l)]) ∧ Below W.heap.size W w') := Lib.hid fun W hW => there_err A n c l t W (hr.below hW) hn hm h
  have H3 : Hid (∀ W, Below w.heap.size w W → Calls Try.prog 17 #[.slice A n c, .int .i64 t] W fun e w' => e = .returned (.tuple #[.int .i64 0, .int .i64 (wrongX l)]) ∧ Below W.heap.size W w') := Lib.hid fun W hW => work_err A n c l t W (hr.below hW) hn hm h
  have H4 : Hid (∀ W, Below w.heap.size w W → Calls Try.prog 18 #[.slice A n c] W fun e w' => e = .returned (.int .i64 (wrongX l)) ∧ Below W.heap.size W w') := Lib.hid fun W hW => xwrong_any A n c l W (hr.below hW) hn hm
  have H5 : Hid (∀ W, Below w.heap.size w W → Calls Try.prog 19 #[.slice A n c] W fun e w' => e = .returned (.int .i64 (wrongX l)) ∧ Below W.heap.size W w') := Lib.hid fun W hW => wrong_any A n c l W (hr.below hW) hn hm
  clear hr hn hm
  generalize wrongX l = x at H1 H2 H3 H4 H5 h
  have h' : (x != 0) = true := by rw [bne, h]; rfl
  go_enter Try.func3, Try.ntmps3
  go_wp2_with fail
  refine (H1.out _ (by repeat (first | exact Below.refl _ _ | assumption | refine Below.drew ?_ | refine below_drewN ?_ _ | refine Below.alloc ?_ (by first | omega | exact Below.size (by assumption) | (simp; done) | (simp; omega)) _ | refine Below.setCell ?_ (by first | omega | exact Below.size (by assumption) | (simp; done) | (simp; omega)) _ | refine Below.trans ?_ (Below.mono (by assumption) (by first | omega | exact Below.size (by assumption) | (simp; done) | (simp; omega)))))).mono ?_
  rintro e w1 ⟨rfl, hb1⟩
  go_wp2_with fail
  refine (H2.out _ (by repeat (first | exact Below.refl _ _ | assumption | refine Below.drew ?_ | refine below_drewN ?_ _ | refine Below.alloc ?_ (by first | omega | exact Below.size (by assumption) | (simp; done) | (simp; omega)) _ | refine Below.setCell ?_ (by first | omega | exact Below.size (by assumption) | (simp; done) | (simp; omega)) _ | refine Below.trans ?_ (Below.mono (by assumption) (by first | omega | exact Below.size (by assumption) | (simp; done) | (simp; omega)))))).mono ?_
  rintro e w2 ⟨rfl, hb2⟩
  have hs2 := Nat.le_trans hb1.size hb2.size
  go_wp2_with fail
  refine (H3.out _ (by repeat (first | exact Below.refl _ _ | assumption | refine Below.drew ?_ | refine below_drewN ?_ _ | refine Below.alloc ?_ (by first | omega | exact Below.size (by assumption) | (simp; done) | (simp; omega)) _ | refine Below.setCell ?_ (by first | omega | exact Below.size (by assumption) | (simp; done) | (simp; omega)) _ | refine Below.trans ?_ (Below.mono (by assumption) (by first | omega | exact Below.size (by assumption) | (simp; done) | (simp; omega)))))).mono ?_
  rintro e w3 ⟨rfl, hb3⟩
  have hs3 := Nat.le_trans hs2 hb3.size
  go_wp2_with fail
  refine (H4.out _ (by repeat (first | exact Below.refl _ _ | assumption | refine Below.drew ?_ | refine below_drewN ?_ _ | refine Below.alloc ?_ (by first | omega | exact Below.size (by assumption) | (simp; done) | (simp; omega)) _ | refine Below.setCell ?_ (by first | omega | exact Below.size (by assumption) | (simp; done) | (simp; omega)) _ | refine Below.trans ?_ (Below.mono (by assumption) (by first | omega | exact Below.size (by assumption) | (simp; done) | (simp; omega)))))).mono ?_
  rintro e w4 ⟨rfl, hb4⟩
  have hs4 := Nat.le_trans hs3 hb4.size
  go_wp2_with fail
  refine (H5.out _ (by repeat (first | exact Below.refl _ _ | assumption | refine Below.drew ?_ | refine below_drewN ?_ _ | refine Below.alloc ?_ (by first | omega | exact Below.size (by assumption) | (simp; done) | (simp; omega)) _ | refine Below.setCell ?_ (by first | omega | exact Below.size (by assumption) | (simp; done) | (simp; omega)) _ | refine Below.trans ?_ (Below.mono (by assumption) (by first | omega | exact Below.size (by assumption) | (simp; done) | (simp; omega)))))).mono ?_
  rintro e w5 ⟨rfl, hb5⟩
  go_wp2_with fail
  go_ret
  exact ⟨rfl, (by repeat (first | exact Below.refl _ _ | assumption | refine Below.drew ?_ | refine below_drewN ?_ _ | refine Below.alloc ?_ (by first | omega | exact Below.size (by assumption) | (simp; done) | (simp; omega)) _ | refine Below.setCell ?_ (by first | omega | exact Below.size (by assumption) | (simp; done) | (simp; omega)) _ | refine Below.trans ?_ (Below.mono (by assumption) (by first | omega | exact Below.size (by assumption) | (simp; done) | (simp; omega)))))⟩

set_option maxRecDepth 100000 in
set_option maxHeartbeats 4000000 in
theorem walk_ok (A : Option Addr) (n c : Nat) (l : List (Int × Int)) (t : Int) (w : World) (hr : Rd w A (l.flatMap c2)) (hn : l.length = n) (h : wrongX l = 0) (ht0 : -9223372036854775808 ≤ t) (ht1 : t ≤ 9223372036854775807) :
    Calls Try.prog 3 #[.slice A n c, .int .i64 t] w fun e w' => e = .returned (.bool true) ∧ Below w.heap.size w w' := by
  have g := good_of h
  have hnb : n ≤ 400 := by have := g.len; omega
  have H1 : Hid (∀ W, Below w.heap.size w W → Calls Try.prog 15 #[.slice A n c] W fun e w' => ∃ A' c', e = .returned (.tuple #[.slice A' n c', .int .i64 0]) ∧ RdI .i64 w' A' (waits 0 l) ∧ Below W.heap.size W w') := Lib.hid fun W hW => waits_ok A n c l W (hr.below hW) hn g h
  have H2 : Hid (∀ W, Below w.heap.size w W → Calls Try.prog 16 #[.slice A n c, .int .i64 t] W fun e w' => e = .returned (.tuple #[.int .i64 (there l t n), .int .i64 0]) ∧ Below W.heap.size W w') := Lib.hid fun W hW => there_ok A n c l t W (hr.below hW) hn g h
  have H3 : Hid (∀ W, Below w.heap.size w W → Calls Try.prog 17 #[.slice A n c, .int .i64 t] W fun e w' => e = .returned (.tuple #[.int .i64 (xwork l t n), .int .i64 0]) ∧ Below W.heap.size W w') := Lib.hid fun W hW => work_ok A n c l t W (hr.below hW) hn g h ht0 ht1
  have H4 : Hid (∀ W, Below w.heap.size w W → Calls Try.prog 18 #[.slice A n c] W fun e w' => e = .returned (.int .i64 (wrongX l)) ∧ Below W.heap.size W w') := Lib.hid fun W hW => xwrong_any A n c l W (hr.below hW) hn (by omega)
  have H5 : Hid (∀ W, Below w.heap.size w W → Calls Try.prog 19 #[.slice A n c] W fun e w' => e = .returned (.int .i64 (wrongX l)) ∧ Below W.heap.size W w') := Lib.hid fun W hW => wrong_any A n c l W (hr.below hW) hn (by omega)
  have H6 : Hid (∀ W, Below w.heap.size w W → Calls Try.prog 21 #[.slice A n c, .int .i64 t] W fun e w' => e = .returned (.int .i64 (xwork l t n)) ∧ Below W.heap.size W w') := Lib.hid fun W hW => xwork_any A n c l t W (hr.below hW) hn g ht0 ht1
  rw [h] at H4 H5
  have Hn := Lib.hid hn; clear hn h
  obtain ⟨x, Hx⟩ : ∃ x, Hid (x = xwork l t n) := ⟨_, Lib.hid rfl⟩
  rw [← Hx.out] at H3 H6
  go_enter Try.func3, Try.ntmps3
  go_wp2_with fail
  refine (H1.out _ (by repeat (first | exact Below.refl _ _ | assumption | refine Below.drew ?_ | refine below_drewN ?_ _ | refine Below.alloc ?_ (by first | omega | exact Below.size (by assumption) | (simp; done) | (simp; omega)) _ | refine Below.setCell ?_ (by first | omega | exact Below.size (by assumption) | (simp; done) | (simp; omega)) _ | refine Below.trans ?_ (Below.mono (by assumption) (by first | omega | exact Below.size (by assumption) | (simp; done) | (simp; omega)))))).mono ?_
  rintro e w1 ⟨A', c', rfl, hrw, hb1⟩
  have hsz1 := hb1.size
  go_wp2_with fail
  refine (H2.out _ (by repeat (first | exact Below.refl _ _ | assumption | refine Below.drew ?_ | refine below_drewN ?_ _ | refine Below.alloc ?_ (by first | omega | exact Below.size (by assumption) | (simp; done) | (simp; omega)) _ | refine Below.setCell ?_ (by first | omega | exact Below.size (by assumption) | (simp; done) | (simp; omega)) _ | refine Below.trans ?_ (Below.mono (by assumption) (by first | omega | exact Below.size (by assumption) | (simp; done) | (simp; omega)))))).mono ?_
  rintro e w2 ⟨rfl, hb2⟩
  have hB2 : Below w.heap.size w w2 := (by repeat (first | exact Below.refl _ _ | assumption | refine Below.drew ?_ | refine below_drewN ?_ _ | refine Below.alloc ?_ (by first | omega | exact Below.size (by assumption) | (simp; done) | (simp; omega)) _ | refine Below.setCell ?_ (by first | omega | exact Below.size (by assumption) | (simp; done) | (simp; omega)) _ | refine Below.trans ?_ (Below.mono (by assumption) (by first | omega | exact Below.size (by assumption) | (simp; done) | (simp; omega)))))
  have hsz2 := hB2.size
  go_wp2_with fail
  refine (H3.out _ (by repeat (first | exact Below.refl _ _ | assumption | refine Below.drew ?_ | refine below_drewN ?_ _ | refine Below.alloc ?_ (by first | omega | exact Below.size (by assumption) | (simp; done) | (simp; omega)) _ | refine Below.setCell ?_ (by first | omega | exact Below.size (by assumption) | (simp; done) | (simp; omega)) _ | refine Below.trans ?_ (Below.mono (by assumption) (by first | omega | exact Below.size (by assumption) | (simp; done) | (simp; omega)))))).mono ?_
  rintro e w3 ⟨rfl, hb3⟩
  have hB3 : Below w.heap.size w w3 := (by repeat (first | exact Below.refl _ _ | assumption | refine Below.drew ?_ | refine below_drewN ?_ _ | refine Below.alloc ?_ (by first | omega | exact Below.size (by assumption) | (simp; done) | (simp; omega)) _ | refine Below.setCell ?_ (by first | omega | exact Below.size (by assumption) | (simp; done) | (simp; omega)) _ | refine Below.trans ?_ (Below.mono (by assumption) (by first | omega | exact Below.size (by assumption) | (simp; done) | (simp; omega)))))
  have hsz3 := hB3.size
  go_wp2_with fail
  refine (H4.out _ (by repeat (first | exact Below.refl _ _ | assumption | refine Below.drew ?_ | refine below_drewN ?_ _ | refine Below.alloc ?_ (by first | omega | exact Below.size (by assumption) | (simp; done) | (simp; omega)) _ | refine Below.setCell ?_ (by first | omega | exact Below.size (by assumption) | (simp; done) | (simp; omega)) _ | refine Below.trans ?_ (Below.mono (by assumption) (by first | omega | exact Below.size (by assumption) | (simp; done) | (simp; omega)))))).mono ?_
  rintro e w4 ⟨rfl, hb4⟩
  have hB4 : Below w.heap.size w w4 := (by repeat (first | exact Below.refl _ _ | assumption | refine Below.drew ?_ | refine below_drewN ?_ _ | refine Below.alloc ?_ (by first | omega | exact Below.size (by assumption) | (simp; done) | (simp; omega)) _ | refine Below.setCell ?_ (by first | omega | exact Below.size (by assumption) | (simp; done) | (simp; omega)) _ | refine Below.trans ?_ (Below.mono (by assumption) (by first | omega | exact Below.size (by assumption) | (simp; done) | (simp; omega)))))
  have hsz4 := hB4.size
  go_wp2_with fail
  refine (H5.out _ (by repeat (first | exact Below.refl _ _ | assumption | refine Below.drew ?_ | refine below_drewN ?_ _ | refine Below.alloc ?_ (by first | omega | exact Below.size (by assumption) | (simp; done) | (simp; omega)) _ | refine Below.setCell ?_ (by first | omega | exact Below.size (by assumption) | (simp; done) | (simp; omega)) _ | refine Below.trans ?_ (Below.mono (by assumption) (by first | omega | exact Below.size (by assumption) | (simp; done) | (simp; omega)))))).mono ?_
  rintro e w5 ⟨rfl, hb5⟩
  have hB5 : Below w.heap.size w w5 := (by repeat (first | exact Below.refl _ _ | assumption | refine Below.drew ?_ | refine below_drewN ?_ _ | refine Below.alloc ?_ (by first | omega | exact Below.size (by assumption) | (simp; done) | (simp; omega)) _ | refine Below.setCell ?_ (by first | omega | exact Below.size (by assumption) | (simp; done) | (simp; omega)) _ | refine Below.trans ?_ (Below.mono (by assumption) (by first | omega | exact Below.size (by assumption) | (simp; done) | (simp; omega)))))
  have hsz5 := hB5.size
  have hC5 : Below w1.heap.size w1 w5 := hb2.trans ((hb3.trans ((hb4.trans (hb5.mono hb4.size)).mono hb3.size)).mono hb2.size)
  clear hb1 hb2 hb3 hb4 hb5 hB2 hB3 hB4 hsz2 hsz3 hsz4
  have hrw5 := hrw.below hC5
  clear hC5 hrw
  go_wp2_with fail
  go_loopw [12, 69] (fun v i wr => ∃ (k : Nat), k ≤ n ∧ i = .int .i64 k ∧ v = .int .i64 (there l t k) ∧ Below w5.heap.size w5 wr) (fun _ i _ => n - (intOf i).toNat)
  case atStart => exact ⟨0, by omega, rfl, rfl, Below.refl _ _⟩
  case round =>
    obtain ⟨k, hk, rfl, rfl, hbw⟩ := hrel
    have hsz := hbw.size
    have hB : Below w.heap.size w wr := hB5.trans (hbw.mono hsz5)
    obtain ⟨hth0, hth1⟩ := there_bd l t k
    by_cases hlt : k < n
    · have hl : k < l.length := by have := Hn.out; omega
      obtain ⟨y, z, Hxy⟩ := get_hid l k hl
      obtain ⟨b, off, rfl, hbl, hc0, hc1⟩ := at2w hr hB hl Hxy.out
      have hg := g.ok k hl
      rw [Hxy.out] at hg
      obtain ⟨hx0, hx1, hy0, hy1⟩ := hg
      simp only at hx0 hx1 hy0 hy1
      obtain ⟨hq0, hq1⟩ := xwait_bd g k hl
      have hkl : k < (waits 0 l).length := by rw [waits_length]; exact hl
      obtain ⟨bw, ow, hA', hcw⟩ := (hrw5.below hbw).at_ hkl
      have hwk : (waits 0 l)[k] = xwait l k := by
        have h1 := waits_get l k hl
        rw [List.getElem?_eq_getElem hkl, Option.some.injEq] at h1
        rw [h1, xwait_eq g k hl]
      rw [hwk] at hcw
      have hbwl := lt_of_cell hcw
      subst hA'
      have Hst : Hid (there l t (k + 1) = there l t k + (if y ≤ t ∧ t < y + xwait l k + z then 1 else 0)) := Lib.hid (by rw [there, getD_eq hl, Hxy.out])
      have Hcall : Hid (∀ W, Below w.heap.size w W → Calls Try.prog 20 #[.slice (some ⟨b, off, none⟩) n c, .int .i64 k] W fun e w' => e = .returned (.int .i64 (xwait l k)) ∧ ∃ q, w' = W.drewN q) :=
        Lib.hid (fun W hW => xwait_any _ n c l k W (hr.below hW) Hn.out g hlt)
      clear hwk hkl
      generalize xwait l k = q at hcw hq0 hq1 Hst Hcall
      generalize there l t k = m at hth0 hth1 Hst ⊢
      by_cases h1 : y ≤ t
      · by_cases h2 : t < y + q + z
        · go_wp2_with fail
          refine (Hcall.out _ (by repeat (first | exact Below.refl _ _ | assumption | refine Below.drew ?_ | refine below_drewN ?_ _ | refine Below.alloc ?_ (by first | omega | exact Below.size (by assumption) | (simp; done) | (simp; omega)) _ | refine Below.setCell ?_ (by first | omega | exact Below.size (by assumption) | (simp; done) | (simp; omega)) _ | refine Below.trans ?_ (Below.mono (by assumption) (by first | omega | exact Below.size (by assumption) | (simp; done) | (simp; omega)))))).mono ?_
          rintro e w6 ⟨rfl, nq, rfl⟩
          go_wp2_with fail
          go_roundw
          case rel => exact ⟨k + 1, by omega, by go_num, by rw [Hst.out, if_pos ⟨h1, h2⟩], (by repeat (first | exact Below.refl _ _ | assumption | refine Below.drew ?_ | refine below_drewN ?_ _ | refine Below.alloc ?_ (by first | omega | exact Below.size (by assumption) | (simp; done) | (simp; omega)) _ | refine Below.setCell ?_ (by first | omega | exact Below.size (by assumption) | (simp; done) | (simp; omega)) _ | refine Below.trans ?_ (Below.mono (by assumption) (by first | omega | exact Below.size (by assumption) | (simp; done) | (simp; omega)))))⟩
          case measure => first | (simp [intOf]; done) | (simp [intOf]; omega)
        · go_wp2_with fail
          refine (Hcall.out _ (by repeat (first | exact Below.refl _ _ | assumption | refine Below.drew ?_ | refine below_drewN ?_ _ | refine Below.alloc ?_ (by first | omega | exact Below.size (by assumption) | (simp; done) | (simp; omega)) _ | refine Below.setCell ?_ (by first | omega | exact Below.size (by assumption) | (simp; done) | (simp; omega)) _ | refine Below.trans ?_ (Below.mono (by assumption) (by first | omega | exact Below.size (by assumption) | (simp; done) | (simp; omega)))))).mono ?_
          rintro e w6 ⟨rfl, nq, rfl⟩
          go_wp2_with fail
          go_roundw
          case rel => exact ⟨k + 1, by omega, by go_num, val_int (by rw [Hst.out, if_neg (by omega)]; omega), (by repeat (first | exact Below.refl _ _ | assumption | refine Below.drew ?_ | refine below_drewN ?_ _ | refine Below.alloc ?_ (by first | omega | exact Below.size (by assumption) | (simp; done) | (simp; omega)) _ | refine Below.setCell ?_ (by first | omega | exact Below.size (by assumption) | (simp; done) | (simp; omega)) _ | refine Below.trans ?_ (Below.mono (by assumption) (by first | omega | exact Below.size (by assumption) | (simp; done) | (simp; omega)))))⟩
          case measure => first | (simp [intOf]; done) | (simp [intOf]; omega)
      · go_wp2_with fail
        refine (Hcall.out _ (by repeat (first | exact Below.refl _ _ | assumption | refine Below.drew ?_ | refine below_drewN ?_ _ | refine Below.alloc ?_ (by first | omega | exact Below.size (by assumption) | (simp; done) | (simp; omega)) _ | refine Below.setCell ?_ (by first | omega | exact Below.size (by assumption) | (simp; done) | (simp; omega)) _ | refine Below.trans ?_ (Below.mono (by assumption) (by first | omega | exact Below.size (by assumption) | (simp; done) | (simp; omega)))))).mono ?_
        rintro e w6 ⟨rfl, nq, rfl⟩
        go_wp2_with fail
        go_roundw
        case rel => exact ⟨k + 1, by omega, by go_num, val_int (by rw [Hst.out, if_neg (by omega)]; omega), (by repeat (first | exact Below.refl _ _ | assumption | refine Below.drew ?_ | refine below_drewN ?_ _ | refine Below.alloc ?_ (by first | omega | exact Below.size (by assumption) | (simp; done) | (simp; omega)) _ | refine Below.setCell ?_ (by first | omega | exact Below.size (by assumption) | (simp; done) | (simp; omega)) _ | refine Below.trans ?_ (Below.mono (by assumption) (by first | omega | exact Below.size (by assumption) | (simp; done) | (simp; omega)))))⟩
        case measure => first | (simp [intOf]; done) | (simp [intOf]; omega)
    · obtain rfl : k = n := by omega
      go_wp2_with fail
      refine (H6.out _ (by repeat (first | exact Below.refl _ _ | assumption | refine Below.drew ?_ | refine below_drewN ?_ _ | refine Below.alloc ?_ (by first | omega | exact Below.size (by assumption) | (simp; done) | (simp; omega)) _ | refine Below.setCell ?_ (by first | omega | exact Below.size (by assumption) | (simp; done) | (simp; omega)) _ | refine Below.trans ?_ (Below.mono (by assumption) (by first | omega | exact Below.size (by assumption) | (simp; done) | (simp; omega)))))).mono ?_
      rintro e w6 ⟨rfl, hb6⟩
      go_wp2_with fail
      go_ret
      exact ⟨rfl, (by repeat (first | exact Below.refl _ _ | assumption | refine Below.drew ?_ | refine below_drewN ?_ _ | refine Below.alloc ?_ (by first | omega | exact Below.size (by assumption) | (simp; done) | (simp; omega)) _ | refine Below.setCell ?_ (by first | omega | exact Below.size (by assumption) | (simp; done) | (simp; omega)) _ | refine Below.trans ?_ (Below.mono (by assumption) (by first | omega | exact Below.size (by assumption) | (simp; done) | (simp; omega)))))⟩

theorem walk (A : Option Addr) (n c : Nat) (l : List (Int × Int)) (t : Int) (w : World) (hr : Rd w A (l.flatMap c2)) (hn : l.length = n) (hm : n ≤ 140737488355328) (ht0 : -9223372036854775808 ≤ t) (ht1 : t ≤ 9223372036854775807) :
    Calls Try.prog 3 #[.slice A n c, .int .i64 t] w fun e w' => e = .returned (.bool true) ∧ Below w.heap.size w w' := by
  by_cases h : wrongX l = 0
  · exact walk_ok A n c l t w hr hn h ht0 ht1
  · exact walk_err A n c l t w hr hn hm (by simpa using h)
end Go.Proofs.Ytlmnlffbbbcodaa.LindleyWaits
