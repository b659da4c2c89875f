/- Walk: the reference's IReady. -/
import Derived.Test.YtadjbgdblfblbaaBucketG
import Derived.Test.YtadjbgdblfblbaaReg
namespace Go.Proofs.Ytadjbgdblfblbaa.Bucket
open Go.RowKit Go.Proofs.Ytadjbgdblfblbaa.Big

set_option maxRecDepth 100000 in
set_option maxHeartbeats 1000000 in
theorem can_any (num den burst level at0 n t : Int) (g1 g2 : Nat) (w : World) (h : bright num den burst level at0 = true) (hn0 : 0 ≤ n) (hn1 : n ≤ 1048576) (ht0 : at0 ≤ t) (ht1 : t ≤ 1099511627776)
    (hc : ∀ o, w.cell? ⟨g1, o, none⟩ = (#[(.int .i64 num), (.int .i64 den), (.int .i64 burst), (.int .i64 level), (.int .i64 at0)] : Array Value)[o]?) (hc2 : w.cell? ⟨g2, 0, none⟩ = some (.int .i64 n)) :
    Calls Try.prog 98 #[(.int .i64 t), .pointer (some ⟨g1, 0, none⟩), .pointer (some ⟨g2, 0, none⟩)] w fun e w' => e = .returned (.bool (decide (n * den ≤ lev num den burst level at0 t))) ∧ Below w.heap.size w w' := by
  have HL : Hid (∀ W, Calls Try.prog 57 #[.agg #[(.int .i64 num), (.int .i64 den), (.int .i64 burst), (.int .i64 level), (.int .i64 at0)], (.int .i64 t)] W fun e w' => e = .returned ((.int .i64 (lev num den burst level at0 t))) ∧ Below W.heap.size W w') := Lib.hid fun W => by
    obtain ⟨⟨k0, k1⟩, ⟨k2, k3⟩, k4, k5⟩ := rng_iff.1 (bright_rng h)
    have p1 : burst * den ≤ 1048576 * 1048576 := Int.mul_le_mul k5 k3 (by omega) (by omega)
    simp only [bright, Bool.and_eq_true, decide_eq_true_eq] at h
    exact ilevel_any num den burst level at0 t W k0 k1 (by omega) k3 k4 k5 h.1.1.1.2 (by omega) h.1.2 ht0 ht1
  obtain ⟨⟨a0, a1⟩, ⟨a2, a3⟩, a4, a5⟩ := rng_iff.1 (bright_rng h)
  obtain ⟨q0, q1⟩ := prod_bd hn0 hn1 a2 a3
  generalize lev num den burst level at0 t = lv at HL ⊢
  have hw : IntKind.i64.wrap (n * den) = n * den := IntWalk.i64_in _ (by omega)
  have l1 : g1 < w.heap.size := lt_of_cell ((hc 0).trans rfl)
  have l2 : g2 < w.heap.size := lt_of_cell hc2
  have s0 : ∀ (i : Since w) o, i.val.cell? ⟨g1, o, none⟩ = (#[(.int .i64 num), (.int .i64 den), (.int .i64 burst), (.int .i64 level), (.int .i64 at0)] : Array Value)[o]? := fun i o => (since_cell i l1 o).trans (hc o)
  have s1 : ∀ (i : Since w), i.val.cell? ⟨g2, 0, none⟩ = some (.int .i64 n) := fun i => (since_cell i l2 0).trans hc2
  have HLs : Hid (∀ i : Since w, Calls Try.prog 57 #[.agg #[(.int .i64 num), (.int .i64 den), (.int .i64 burst), (.int .i64 level), (.int .i64 at0)], (.int .i64 t)] i.val fun e w' => e = .returned (.int .i64 lv) ∧ Below i.val.heap.size i.val w') := Lib.hid fun i => HL.out i.val
  clear h hc hc2
  go_enter Try.func98, Try.ntmps98
  go_wp2_with fail
  try dsimp only [List.append]
  refine wp_region_since w (Below.refl _ _) (by kernel_rfl) (by kernel_rfl) ?_
  repeat (go_big_quiet_step ((go_at_call 57; exact Calls.since (HLs.out _))))
  refine wpQuiet_nil ?_
  rintro _ ⟨⟨w7, hb7⟩, rfl⟩
  go_wp2_with fail
  go_ret
  exact ⟨rfl, hb7⟩

theorem enter_can : ∀ args W, (callFunc 98 args).run Try.prog W = .ok (.enter 98 args) W := fun _ _ => by kernel_rfl

set_option maxRecDepth 100000 in
set_option maxHeartbeats 2000000 in
theorem iready_any (num den burst level at0 n : Int) (w : World) (h : bright num den burst level at0 = true) (hn0 : 0 ≤ n) (hn1 : n ≤ 1048576) :
    Calls Try.prog 58 #[.agg #[(.int .i64 num), (.int .i64 den), (.int .i64 burst), (.int .i64 level), (.int .i64 at0)], (.int .i64 n)] w fun e w' => e = .returned (.tuple #[(.int .i64 ((rdy num den burst level at0 n).1)), .bool (rdy num den burst level at0 n).2]) ∧ Below w.heap.size w w' := by
  have hat : 0 ≤ at0 ∧ at0 ≤ 1099511627776 := by
    simp only [bright, Bool.and_eq_true, decide_eq_true_eq] at h
    exact ⟨h.1.2, h.2⟩
  obtain ⟨t0, t1⟩ := hat
  have HC : Hid (∀ W t, Below (w.heap.size + 1 + 1) ((w.alloc (.cells #[(.int .i64 num), (.int .i64 den), (.int .i64 burst), (.int .i64 level), (.int .i64 at0)] 33)).alloc (.cells #[(.int .i64 n)] 3)) W → at0 ≤ t → t ≤ 1099511627776 → Calls Try.prog 98 #[(.int .i64 t), .pointer (some ⟨w.heap.size, 0, none⟩), .pointer (some ⟨w.heap.size + 1, 0, none⟩)] W fun e w' => e = .returned (.bool ((rdy num den burst level at0 n).2 && decide ((rdy num den burst level at0 n).1 ≤ t))) ∧ Below W.heap.size W w') :=
    Lib.hid fun W t hW h0 h1 => by
      have hk := rdy_can h hn0 hn1 h0 h1
      have := can_any num den burst level at0 n t w.heap.size (w.heap.size + 1) W h hn0 hn1 h0 h1
        (fun o => (hW.cell (p := ⟨w.heap.size, o, none⟩) (by simp only; omega)).trans (by simp [go_sem])) ((hW.cell (p := ⟨w.heap.size + 1, 0, none⟩) (by simp only; omega)).trans (by simp [go_sem]))
      rwa [show decide (n * den ≤ lev num den burst level at0 t) = ((rdy num den burst level at0 n).2 && decide ((rdy num den burst level at0 n).1 ≤ t)) from by
        rw [Bool.eq_iff_iff]; simp only [decide_eq_true_eq, Bool.and_eq_true]; exact hk] at this
  have Hbd : Hid ((rdy num den burst level at0 n).2 = true → at0 ≤ (rdy num den burst level at0 n).1 ∧ (rdy num den burst level at0 n).1 ≤ 1099511627776) := Lib.hid (rdy_bd h)
  have Hno : Hid ((rdy num den burst level at0 n).2 = false → (rdy num den burst level at0 n).1 = 0) := Lib.hid rdy_no
  clear h
  generalize rdy num den burst level at0 n = R at HC Hbd Hno ⊢
  obtain ⟨r, ok⟩ := R
  simp only at HC Hbd Hno ⊢
  cases ok
  · obtain rfl := Hno.out rfl
    have HC2 : Hid (∀ W, Below (w.heap.size + 1 + 1) ((w.alloc (.cells #[(.int .i64 num), (.int .i64 den), (.int .i64 burst), (.int .i64 level), (.int .i64 at0)] 33)).alloc (.cells #[(.int .i64 n)] 3)) W → Calls Try.prog 98 #[(.int .i64 1099511627776), .pointer (some ⟨w.heap.size, 0, none⟩), .pointer (some ⟨w.heap.size + 1, 0, none⟩)] W fun e w' => e = .returned (.bool false) ∧ Below W.heap.size W w') := Lib.hid fun W hW => by
      have := HC.out W 1099511627776 hW t1 (by omega)
      rwa [Bool.false_and] at this
    clear HC Hbd Hno
    go_enter Try.func58, Try.ntmps58
    go_wp2_with fail
    refine (HC2.out _ (Below.refl _ _)).mono ?_
    rintro e w1 ⟨rfl, hb⟩
    go_wp2_with fail
    go_ret2
    exact ⟨rfl, (by repeat (first | (with_reducible exact Below.refl _ _) | (with_reducible assumption) | (with_reducible refine Below.drew ?_) | (with_reducible refine below_drewN ?_ _) | ((with_reducible refine Below.setCell ?_ ?_ _); rotate_left; (next => first | omega | exact Nat.le_refl _ | (refine Below.size (B := ?_) ?_; rotate_left; assumption) | (simp; done) | (simp; omega))) | ((with_reducible refine Below.alloc ?_ ?_ _); rotate_left; (next => first | omega | exact Nat.le_refl _ | (refine Below.size (B := ?_) ?_; rotate_left; assumption) | (simp; done) | (simp; omega))) | ((with_reducible refine Below.trans (b := ?_) ?_ (Below.mono (B := ?_) ?_ ?_)); rotate_left 3; (next => (with_reducible assumption)); (next => first | omega | exact Nat.le_refl _ | (refine Below.size (B := ?_) ?_; rotate_left; assumption) | (simp; done) | (simp; omega)))))⟩
  · obtain ⟨r0, r1⟩ := Hbd.out rfl
    have HC2 : Hid (∀ W t, Below (w.heap.size + 1 + 1) ((w.alloc (.cells #[(.int .i64 num), (.int .i64 den), (.int .i64 burst), (.int .i64 level), (.int .i64 at0)] 33)).alloc (.cells #[(.int .i64 n)] 3)) W → at0 ≤ t → t ≤ 1099511627776 → Calls Try.prog 98 #[(.int .i64 t), .pointer (some ⟨w.heap.size, 0, none⟩), .pointer (some ⟨w.heap.size + 1, 0, none⟩)] W fun e w' => e = .returned (.bool (decide (r ≤ t))) ∧ Below W.heap.size W w') := Lib.hid fun W t hW h0 h1 => by
      have := HC.out W t hW h0 h1
      rwa [Bool.true_and] at this
    have HC3 : Hid (∀ W, Below (w.heap.size + 1 + 1) ((w.alloc (.cells #[(.int .i64 num), (.int .i64 den), (.int .i64 burst), (.int .i64 level), (.int .i64 at0)] 33)).alloc (.cells #[(.int .i64 n)] 3)) W → Calls Try.prog 98 #[(.int .i64 1099511627776), .pointer (some ⟨w.heap.size, 0, none⟩), .pointer (some ⟨w.heap.size + 1, 0, none⟩)] W fun e w' => e = .returned (.bool true) ∧ Below W.heap.size W w') := Lib.hid fun W hW => by
      have := HC2.out W 1099511627776 hW t1 (by omega)
      rwa [decide_eq_true r1] at this
    clear HC Hbd Hno
    go_enter Try.func58, Try.ntmps58
    go_wp2_with fail
    refine (HC3.out _ (Below.refl _ _)).mono ?_
    rintro e w1 ⟨rfl, hb1⟩
    have hB1 : Below (w.heap.size + 1 + 1) ((w.alloc (.cells #[(.int .i64 num), (.int .i64 den), (.int .i64 burst), (.int .i64 level), (.int .i64 at0)] 33)).alloc (.cells #[(.int .i64 n)] 3)) w1 := hb1.mono (by simp)
    clear hb1
    go_wp2_with fail
    go_loopw [7, 8] (fun lo hi W => ∃ a b : Int, lo = .int .i64 a ∧ hi = .int .i64 b ∧ at0 ≤ a ∧ a ≤ r ∧ r ≤ b ∧ b ≤ 1099511627776 ∧ Below (w.heap.size + 1 + 1) ((w.alloc (.cells #[(.int .i64 num), (.int .i64 den), (.int .i64 burst), (.int .i64 level), (.int .i64 at0)] 33)).alloc (.cells #[(.int .i64 n)] 3)) W) (fun lo hi _ => (intOf hi - intOf lo).toNat)
    case atStart => exact ⟨at0, 1099511627776, rfl, rfl, by omega, r0, r1, by omega, hB1⟩
    case round =>
      obtain ⟨a, b, rfl, rfl, k0, k1, k2, k3, hbw⟩ := hrel
      have hbs := hbw.size
      by_cases hlt : a < b
      · have m0 : a ≤ (a + b) / 2 := by omega
        have m1 : (a + b) / 2 < b := by omega
        have hw : (a + b).tdiv 2 = (a + b) / 2 := Int.tdiv_eq_ediv_of_nonneg (by omega)
        have hsum : 0 ≤ a + b := by omega
        by_cases hm : r ≤ (a + b) / 2
        · have HM : Hid (∀ W, Below (w.heap.size + 1 + 1) ((w.alloc (.cells #[(.int .i64 num), (.int .i64 den), (.int .i64 burst), (.int .i64 level), (.int .i64 at0)] 33)).alloc (.cells #[(.int .i64 n)] 3)) W → Calls Try.prog 98 #[(.int .i64 ((a + b) / 2)), .pointer (some ⟨w.heap.size, 0, none⟩), .pointer (some ⟨w.heap.size + 1, 0, none⟩)] W fun e w' => e = .returned (.bool true) ∧ Below W.heap.size W w') := Lib.hid fun W hW => by
            have := HC2.out W ((a + b) / 2) hW (by omega) (by omega)
            rwa [decide_eq_true hm] at this
          clear hw
          go_wp2_with fail
          refine (HM.out _ hbw).mono ?_
          rintro e w2 ⟨rfl, hb2⟩
          go_wp2_with fail
          go_roundw
          case rel => exact ⟨a, (a + b) / 2, rfl, rfl, k0, k1, hm, by omega, hbw.trans (hb2.mono (by simp at hbs ⊢; omega))⟩
          case measure => simp [intOf]; omega
        · have HM : Hid (∀ W, Below (w.heap.size + 1 + 1) ((w.alloc (.cells #[(.int .i64 num), (.int .i64 den), (.int .i64 burst), (.int .i64 level), (.int .i64 at0)] 33)).alloc (.cells #[(.int .i64 n)] 3)) W → Calls Try.prog 98 #[(.int .i64 ((a + b) / 2)), .pointer (some ⟨w.heap.size, 0, none⟩), .pointer (some ⟨w.heap.size + 1, 0, none⟩)] W fun e w' => e = .returned (.bool false) ∧ Below W.heap.size W w') := Lib.hid fun W hW => by
            have := HC2.out W ((a + b) / 2) hW (by omega) (by omega)
            rwa [decide_eq_false hm] at this
          clear hw
          go_wp2_with fail
          refine (HM.out _ hbw).mono ?_
          rintro e w2 ⟨rfl, hb2⟩
          go_wp2_with fail
          go_roundw
          case rel => exact ⟨(a + b) / 2 + 1, b, rfl, rfl, by omega, by omega, k2, k3, hbw.trans (hb2.mono (by simp at hbs ⊢; omega))⟩
          case measure => simp [intOf]; omega
      · obtain rfl : a = r := by omega
        have hB : Below w.heap.size w wr := (((Below.refl _ _).alloc (Nat.le_refl _) _).alloc (by simp) _).trans (hbw.mono (by omega))
        go_wp2_with fail
        go_ret2
        exact ⟨rfl, hB⟩
end Go.Proofs.Ytadjbgdblfblbaa.Bucket
