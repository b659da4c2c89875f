/- Walks of trie.bit, trie.Within and the reference's FBits: addresses as numbers. -/
import Derived.Test.YtpknjfeiiaopgaaMem
import Derived.Outline
import Derived.BigQuiet
import Derived.Deep.QuietTactic
import Derived.Deep.RegionHeld3
namespace Go.Proofs.Ytpknjfeiiaopgaa.Trie
open Go.RowKit

/-- An address as a number. -/
def n4 (a b c d : Int) : Int := ((a * 256 + b) * 256 + c) * 256 + d
/-- A byte. -/
def By (a : Int) : Prop := 0 ≤ a ∧ a ≤ 255

def abit (v : Int) (k : Nat) : Int := v / (2 : Int) ^ (31 - k) % 2

theorem and1 {x : Int} (h0 : 0 ≤ x) (h1 : x < 256) : bits BinOp.and IntKind.u8 x 1 = x % 2 := by
  rw [u8_and x 1 h0 h1 (by omega) (by omega), show (1 : Int).toNat = 1 from rfl, nat_mask1]
  omega

set_option maxHeartbeats 4000000 in
theorem bit_any (a b c d : Int) (ha : By a) (hb : By b) (hc : By c) (hd : By d) (k : Nat) (hk : k < 32) (w : World) :
    Calls Try.prog 50 #[.agg #[.int .u8 a, .int .u8 b, .int .u8 c, .int .u8 d], .int .i64 k] w fun e w' => e = .returned (.int .u8 (abit (n4 a b c d) k)) ∧ Below w.heap.size w w' := by
  obtain ⟨a0, a1⟩ := ha
  obtain ⟨b0, b1⟩ := hb
  obtain ⟨c0, c1⟩ := hc
  obtain ⟨d0, d1⟩ := hd
  unfold n4
  have hc : k = 0 ∨ k = 1 ∨ k = 2 ∨ k = 3 ∨ k = 4 ∨ k = 5 ∨ k = 6 ∨ k = 7 ∨ k = 8 ∨ k = 9 ∨ k = 10 ∨ k = 11 ∨ k = 12 ∨ k = 13 ∨ k = 14 ∨ k = 15 ∨ k = 16 ∨ k = 17 ∨ k = 18 ∨ k = 19 ∨ k = 20 ∨ k = 21 ∨ k = 22 ∨ k = 23 ∨ k = 24 ∨ k = 25 ∨ k = 26 ∨ k = 27 ∨ k = 28 ∨ k = 29 ∨ k = 30 ∨ k = 31 := by omega
  clear hk
  rcases hc with rfl | rfl | rfl | rfl | rfl | rfl | rfl | rfl | rfl | rfl | rfl | rfl | rfl | rfl | rfl | rfl | rfl | rfl | rfl | rfl | rfl | rfl | rfl | rfl | rfl | rfl | rfl | rfl | rfl | rfl | rfl | rfl
  all_goals
    go_enter Try.func50, Try.ntmps50
    go_wp2
    go_ret
    refine ⟨ret_int ?_, (by repeat (first | (with_reducible exact Below.refl _ _) | (with_reducible assumption) | (with_reducible refine Below.drew ?_) | (with_reducible refine below_drewN ?_ _) | ((with_reducible refine Below.setCell ?_ ?_ _); rotate_left; (next => first | omega | exact Nat.le_refl _ | (refine Below.size (B := ?_) ?_; rotate_left; assumption) | (simp; done) | (simp; omega))) | ((with_reducible refine Below.alloc ?_ ?_ _); rotate_left; (next => first | omega | exact Nat.le_refl _ | (refine Below.size (B := ?_) ?_; rotate_left; assumption) | (simp; done) | (simp; omega))) | ((with_reducible refine Below.trans (b := ?_) ?_ (Below.mono (B := ?_) ?_ ?_)); rotate_left 3; (next => (with_reducible assumption)); (next => first | omega | exact Nat.le_refl _ | (refine Below.size (B := ?_) ?_; rotate_left; assumption) | (simp; done) | (simp; omega))) | exact Below.refl _ _ | assumption | refine Below.drew ?_ | refine below_drewN ?_ _ | refine Below.alloc ?_ (by first | omega | exact Below.size (by assumption) | (simp; done) | (simp; omega)) _ | refine Below.setCell ?_ (by first | omega | exact Below.size (by assumption) | (simp; done) | (simp; omega)) _ | refine Below.trans ?_ (Below.mono (by assumption) (by first | omega | exact Below.size (by assumption) | (simp; done) | (simp; omega)))))⟩
    rw [and1 (by omega) (by omega)]
    simp only [abit, Nat.reduceSub, Int.reducePow]
    omega

/-- The first n bits of an address. -/
def pre (v : Int) (n : Nat) : Int := v / (2 : Int) ^ (32 - n)

theorem n4_bd {a b c d : Int} (ha : By a) (hb : By b) (hc : By c) (hd : By d) : 0 ≤ n4 a b c d ∧ n4 a b c d < 4294967296 := by
  obtain ⟨a0, a1⟩ := ha
  obtain ⟨b0, b1⟩ := hb
  obtain ⟨c0, c1⟩ := hc
  obtain ⟨d0, d1⟩ := hd
  unfold n4
  omega

theorem pre_succ (v : Int) (k : Nat) (hk : k < 32) : pre v (k + 1) = 2 * pre v k + abit v k := by
  unfold pre abit
  rw [show 32 - (k + 1) = 31 - k from by omega, show 32 - k = (31 - k) + 1 from by omega, Int.pow_succ, ← Int.ediv_ediv_of_nonneg (Int.le_of_lt (Int.pow_pos (by omega)))]
  omega

theorem abit_bd (v : Int) (k : Nat) : 0 ≤ abit v k ∧ abit v k ≤ 1 := by unfold abit; omega

theorem pre_zero {v : Int} (h0 : 0 ≤ v) (h1 : v < 4294967296) : pre v 0 = 0 := by
  unfold pre
  exact Int.ediv_eq_zero_of_lt h0 (by simpa using h1)

/-- Does an address begin as a prefix of n bits does? -/
def within (v p n : Int) : Bool := decide (0 ≤ n) && decide (n ≤ 32) && decide (pre v n.toNat = pre p n.toNat)

/-- As long as all bits so far are the same. -/
theorem pre_same_succ (v p : Int) (k : Nat) (hk : k < 32) (h : pre v k = pre p k) : (pre v (k + 1) = pre p (k + 1) ↔ abit v k = abit p k) := by
  rw [pre_succ v k hk, pre_succ p k hk, h]
  omega
theorem pre_other (v p : Int) (k : Nat) : ∀ m, k + m ≤ 32 → pre v k ≠ pre p k → pre v (k + m) ≠ pre p (k + m)
  | 0, _, h => h
  | m + 1, hm, h => by
    have ih := pre_other v p k m (by omega) h
    rw [← Nat.add_assoc, pre_succ v (k + m) (by omega), pre_succ p (k + m) (by omega)]
    have h1 := abit_bd v (k + m)
    have h2 := abit_bd p (k + m)
    omega

set_option maxHeartbeats 4000000 in
theorem within_any (xa xb xc xd pa pb pc pd : Int) (hxa : By xa) (hxb : By xb) (hxc : By xc) (hxd : By xd) (hpa : By pa) (hpb : By pb) (hpc : By pc) (hpd : By pd) (n to : Int) (w : World) :
    Calls Try.prog 13 #[.agg #[.int .u8 xa, .int .u8 xb, .int .u8 xc, .int .u8 xd], .agg #[.int .u8 pa, .int .u8 pb, .int .u8 pc, .int .u8 pd, .int .i64 n, .int .i64 to]] w fun e w' => e = .returned (.bool (within (n4 xa xb xc xd) (n4 pa pb pc pd) n)) ∧ Below w.heap.size w w' := by
  obtain ⟨hx0, hx1⟩ := n4_bd hxa hxb hxc hxd
  obtain ⟨hp0, hp1⟩ := n4_bd hpa hpb hpc hpd
  have H0 : Hid (pre (n4 xa xb xc xd) 0 = pre (n4 pa pb pc pd) 0) := Lib.hid (by rw [pre_zero hx0 hx1, pre_zero hp0 hp1])
  clear hx0 hx1 hp0 hp1
  obtain ⟨v, Hv⟩ : ∃ v, Hid (n4 xa xb xc xd = v) := ⟨_, Lib.hid rfl⟩
  obtain ⟨q, Hq⟩ : ∃ q, Hid (n4 pa pb pc pd = q) := ⟨_, Lib.hid rfl⟩
  rw [Hv.out, Hq.out] at H0 ⊢
  have HB : Hid (∀ W a b c d k, By a → By b → By c → By d → k < 32 → Calls Try.prog 50 #[.agg #[.int .u8 a, .int .u8 b, .int .u8 c, .int .u8 d], .int .i64 (k : Nat)] W fun e w' => e = .returned (.int .u8 (abit (n4 a b c d) k)) ∧ Below W.heap.size W w') :=
    Lib.hid fun W a b c d k ha hb hc hd hk => bit_any a b c d ha hb hc hd k hk W
  by_cases hn0 : n < 0
  · go_enter Try.func13, Try.ntmps13
    go_wp2_with fail
    go_ret
    exact ⟨ret_bool (by simp [within]; omega), (by repeat (first | (with_reducible exact Below.refl _ _) | (with_reducible assumption) | (with_reducible refine Below.drew ?_) | (with_reducible refine below_drewN ?_ _) | ((with_reducible refine Below.setCell ?_ ?_ _); rotate_left; (next => first | omega | exact Nat.le_refl _ | (refine Below.size (B := ?_) ?_; rotate_left; assumption) | (simp; done) | (simp; omega))) | ((with_reducible refine Below.alloc ?_ ?_ _); rotate_left; (next => first | omega | exact Nat.le_refl _ | (refine Below.size (B := ?_) ?_; rotate_left; assumption) | (simp; done) | (simp; omega))) | ((with_reducible refine Below.trans (b := ?_) ?_ (Below.mono (B := ?_) ?_ ?_)); rotate_left 3; (next => (with_reducible assumption)); (next => first | omega | exact Nat.le_refl _ | (refine Below.size (B := ?_) ?_; rotate_left; assumption) | (simp; done) | (simp; omega))) | exact Below.refl _ _ | assumption | refine Below.drew ?_ | refine below_drewN ?_ _ | refine Below.alloc ?_ (by first | omega | exact Below.size (by assumption) | (simp; done) | (simp; omega)) _ | refine Below.setCell ?_ (by first | omega | exact Below.size (by assumption) | (simp; done) | (simp; omega)) _ | refine Below.trans ?_ (Below.mono (by assumption) (by first | omega | exact Below.size (by assumption) | (simp; done) | (simp; omega)))))⟩
  by_cases hn1 : 32 < n
  · go_enter Try.func13, Try.ntmps13
    go_wp2_with fail
    go_ret
    exact ⟨ret_bool (by simp [within]; omega), (by repeat (first | (with_reducible exact Below.refl _ _) | (with_reducible assumption) | (with_reducible refine Below.drew ?_) | (with_reducible refine below_drewN ?_ _) | ((with_reducible refine Below.setCell ?_ ?_ _); rotate_left; (next => first | omega | exact Nat.le_refl _ | (refine Below.size (B := ?_) ?_; rotate_left; assumption) | (simp; done) | (simp; omega))) | ((with_reducible refine Below.alloc ?_ ?_ _); rotate_left; (next => first | omega | exact Nat.le_refl _ | (refine Below.size (B := ?_) ?_; rotate_left; assumption) | (simp; done) | (simp; omega))) | ((with_reducible refine Below.trans (b := ?_) ?_ (Below.mono (B := ?_) ?_ ?_)); rotate_left 3; (next => (with_reducible assumption)); (next => first | omega | exact Nat.le_refl _ | (refine Below.size (B := ?_) ?_; rotate_left; assumption) | (simp; done) | (simp; omega))) | exact Below.refl _ _ | assumption | refine Below.drew ?_ | refine below_drewN ?_ _ | refine Below.alloc ?_ (by first | omega | exact Below.size (by assumption) | (simp; done) | (simp; omega)) _ | refine Below.setCell ?_ (by first | omega | exact Below.size (by assumption) | (simp; done) | (simp; omega)) _ | refine Below.trans ?_ (Below.mono (by assumption) (by first | omega | exact Below.size (by assumption) | (simp; done) | (simp; omega)))))⟩
  obtain ⟨m, rfl⟩ := Int.eq_ofNat_of_zero_le (show 0 ≤ n by omega)
  have hm : m ≤ 32 := by omega
  clear hn0 hn1
  have Hw : Hid (within v q m = decide (pre v m = pre q m)) := Lib.hid (by simp [within]; omega)
  go_enter Try.func13, Try.ntmps13
  go_wp2_with fail
  go_loopw [16] (fun i wr => ∃ k : Nat, k ≤ m ∧ i = .int .i64 k ∧ pre v k = pre q k ∧ Below ((w.alloc (.cells #[.int .u8 xa, .int .u8 xb, .int .u8 xc, .int .u8 xd] 24)).alloc (.cells #[.int .u8 pa, .int .u8 pb, .int .u8 pc, .int .u8 pd, .int .i64 m, .int .i64 to] 26)).heap.size ((w.alloc (.cells #[.int .u8 xa, .int .u8 xb, .int .u8 xc, .int .u8 xd] 24)).alloc (.cells #[.int .u8 pa, .int .u8 pb, .int .u8 pc, .int .u8 pd, .int .i64 m, .int .i64 to] 26)) wr) (fun i _ => m - (intOf i).toNat)
  case atStart => exact ⟨0, by omega, rfl, H0.out, Below.refl _ _⟩
  case round =>
    obtain ⟨k, hk, rfl, hpk, hbw⟩ := hrel
    have Hpk := Lib.hid hpk; clear hpk
    have hB : Below w.heap.size w wr := ((Below.refl _ _).alloc (Nat.le_refl _) _ |>.alloc (by simp) _).trans (hbw.mono (by simp; omega))
    have c1_0 := fun o => Below.cell hbw (p := ⟨w.heap.size, o, none⟩) (by first | omega | exact Below.size (by assumption) | (simp; done) | (simp; omega))
    have l1_0 : w.heap.size < wr.heap.size := Nat.lt_of_lt_of_le (by first | omega | exact Below.size (by assumption) | (simp; done) | (simp; omega)) (Below.size hbw)
    have c1_1 := fun o => Below.cell hbw (p := ⟨w.heap.size + 1, o, none⟩) (by first | omega | exact Below.size (by assumption) | (simp; done) | (simp; omega))
    have l1_1 : w.heap.size + 1 < wr.heap.size := Nat.lt_of_lt_of_le (by first | omega | exact Below.size (by assumption) | (simp; done) | (simp; omega)) (Below.size hbw)
    have hbw' := hbw
    clear hbw
    by_cases hlt : k < m
    · by_cases hbit : abit v k = abit q k
      · have hbne : (abit (n4 xa xb xc xd) k != abit (n4 pa pb pc pd) k) = false := by rw [Hv.out, Hq.out]; simpa using hbit
        have Hnext : Hid (pre v (k + 1) = pre q (k + 1)) := Lib.hid ((pre_same_succ v q k (by omega) Hpk.out).2 hbit)
        clear hbit
        go_wp2_with fail
        go_region_held3 (fun W => Below wr.heap.size wr W ∧ (∀ o, W.cell? ⟨w.heap.size, o, none⟩ = (#[.int .u8 xa, .int .u8 xb, .int .u8 xc, .int .u8 xd] : Array Value)[o]?) ∧ (∀ o, W.cell? ⟨w.heap.size + 1, o, none⟩ = (#[.int .u8 pa, .int .u8 pb, .int .u8 pc, .int .u8 pd, .int .i64 m, .int .i64 to] : Array Value)[o]?))
          (first | exact ⟨(Below.refl _ _).drew, fun o => (c1_0 o).trans (by simp [go_sem]), fun o => (c1_1 o).trans (by simp [go_sem])⟩ | exact hq)
          ((go_at_call 50; refine (HB.out _ _ _ _ _ _ (by assumption) (by assumption) (by assumption) (by assumption) (by omega)).mono ?_; rintro e w5 ⟨rfl, hb5⟩; have hq := held2 hb5 l1_0 l1_1 (by assumption)))
        go_wp2_with fail
        go_roundw
        case rel => exact ⟨k + 1, by omega, by go_num, Hnext.out, hbw'.trans (hq.1.mono hbw'.size)⟩
        case measure => first | (simp [intOf]; done) | (simp [intOf]; omega)
      · have hbne : (abit (n4 xa xb xc xd) k != abit (n4 pa pb pc pd) k) = true := by rw [Hv.out, Hq.out]; simpa using hbit
        have Hno : Hid (pre v m ≠ pre q m) := Lib.hid (by
          have := pre_other v q (k + 1) (m - (k + 1)) (by omega) (fun e => hbit ((pre_same_succ v q k (by omega) Hpk.out).1 e))
          rwa [show k + 1 + (m - (k + 1)) = m from by omega] at this)
        clear hbit
        go_wp2_with fail
        go_region_held3 (fun W => Below wr.heap.size wr W ∧ (∀ o, W.cell? ⟨w.heap.size, o, none⟩ = (#[.int .u8 xa, .int .u8 xb, .int .u8 xc, .int .u8 xd] : Array Value)[o]?) ∧ (∀ o, W.cell? ⟨w.heap.size + 1, o, none⟩ = (#[.int .u8 pa, .int .u8 pb, .int .u8 pc, .int .u8 pd, .int .i64 m, .int .i64 to] : Array Value)[o]?))
          (first | exact ⟨(Below.refl _ _).drew, fun o => (c1_0 o).trans (by simp [go_sem]), fun o => (c1_1 o).trans (by simp [go_sem])⟩ | exact hq)
          ((go_at_call 50; refine (HB.out _ _ _ _ _ _ (by assumption) (by assumption) (by assumption) (by assumption) (by omega)).mono ?_; rintro e w5 ⟨rfl, hb5⟩; have hq := held2 hb5 l1_0 l1_1 (by assumption)))
        go_wp2_with fail
        go_ret
        exact ⟨ret_bool (by rw [Hw.out]; simpa using Hno.out), hB.trans (hq.1.mono hB.size)⟩
    · obtain rfl : k = m := by omega
      go_wp2_with fail
      go_ret
      exact ⟨ret_bool (by rw [Hw.out]; simpa using Hpk.out), (by repeat (first | (with_reducible exact Below.refl _ _) | (with_reducible assumption) | (with_reducible refine Below.drew ?_) | (with_reducible refine below_drewN ?_ _) | ((with_reducible refine Below.setCell ?_ ?_ _); rotate_left; (next => first | omega | exact Nat.le_refl _ | (refine Below.size (B := ?_) ?_; rotate_left; assumption) | (simp; done) | (simp; omega))) | ((with_reducible refine Below.alloc ?_ ?_ _); rotate_left; (next => first | omega | exact Nat.le_refl _ | (refine Below.size (B := ?_) ?_; rotate_left; assumption) | (simp; done) | (simp; omega))) | ((with_reducible refine Below.trans (b := ?_) ?_ (Below.mono (B := ?_) ?_ ?_)); rotate_left 3; (next => (with_reducible assumption)); (next => first | omega | exact Nat.le_refl _ | (refine Below.size (B := ?_) ?_; rotate_left; assumption) | (simp; done) | (simp; omega))) | exact Below.refl _ _ | assumption | refine Below.drew ?_ | refine below_drewN ?_ _ | refine Below.alloc ?_ (by first | omega | exact Below.size (by assumption) | (simp; done) | (simp; omega)) _ | refine Below.setCell ?_ (by first | omega | exact Below.size (by assumption) | (simp; done) | (simp; omega)) _ | refine Below.trans ?_ (Below.mono (by assumption) (by first | omega | exact Below.size (by assumption) | (simp; done) | (simp; omega)))))⟩

set_option maxHeartbeats 1000000 in
theorem fbits_any (a b c d : Int) (ha : By a) (hb : By b) (hc : By c) (hd : By d) (m : Nat) (hm : m ≤ 32) (w : World) :
    Calls Try.prog 51 #[.agg #[.int .u8 a, .int .u8 b, .int .u8 c, .int .u8 d], .int .i64 m] w fun e w' => e = .returned (.int .i64 (pre (n4 a b c d) m * 2 ^ (32 - m))) ∧ Below w.heap.size w w' := by
  obtain ⟨a0, a1⟩ := ha
  obtain ⟨b0, b1⟩ := hb
  obtain ⟨c0, c1⟩ := hc
  obtain ⟨d0, d1⟩ := hd
  have i0 : ∀ W, (Instr.index 24 (.agg #[.int .u8 a, .int .u8 b, .int .u8 c, .int .u8 d]) (.int .i64 0)).run Try.prog W = .ok (.int .u8 a) W := fun _ => by kernel_rfl
  have i1 : ∀ W, (Instr.index 24 (.agg #[.int .u8 a, .int .u8 b, .int .u8 c, .int .u8 d]) (.int .i64 1)).run Try.prog W = .ok (.int .u8 b) W := fun _ => by kernel_rfl
  have i2 : ∀ W, (Instr.index 24 (.agg #[.int .u8 a, .int .u8 b, .int .u8 c, .int .u8 d]) (.int .i64 2)).run Try.prog W = .ok (.int .u8 c) W := fun _ => by kernel_rfl
  have i3 : ∀ W, (Instr.index 24 (.agg #[.int .u8 a, .int .u8 b, .int .u8 c, .int .u8 d]) (.int .i64 3)).run Try.prog W = .ok (.int .u8 d) W := fun _ => by kernel_rfl
  go_enter Try.func51, Try.ntmps51
  go_wp2
  go_loop [5, 9] (fun v i => ∃ k : Nat, i = .int .i64 k ∧ ((k = 0 ∧ v = .int .i64 0) ∨ (k = 1 ∧ v = .int .i64 a) ∨ (k = 2 ∧ v = .int .i64 (a * 256 + b)) ∨ (k = 3 ∧ v = .int .i64 ((a * 256 + b) * 256 + c)) ∨ (k = 4 ∧ v = .int .i64 (((a * 256 + b) * 256 + c) * 256 + d)))) (fun _ i => 4 - (intOf i).toNat)
  case atStart => exact ⟨0, rfl, .inl ⟨rfl, rfl⟩⟩
  case round =>
    obtain ⟨k, rfl, h⟩ := hrel
    rcases h with ⟨rfl, rfl⟩ | ⟨rfl, rfl⟩ | ⟨rfl, rfl⟩ | ⟨rfl, rfl⟩ | ⟨rfl, rfl⟩
    · go_wp2
      go_round
      case rel => exact ⟨1, rfl, .inr (.inl ⟨rfl, val_int (by omega)⟩)⟩
      case measure => first | (simp [intOf]; done) | (simp [intOf]; omega)
    · go_wp2
      go_round
      case rel => exact ⟨2, rfl, .inr (.inr (.inl ⟨rfl, val_int (by omega)⟩))⟩
      case measure => first | (simp [intOf]; done) | (simp [intOf]; omega)
    · go_wp2
      go_round
      case rel => exact ⟨3, rfl, .inr (.inr (.inr (.inl ⟨rfl, val_int (by omega)⟩)))⟩
      case measure => first | (simp [intOf]; done) | (simp [intOf]; omega)
    · go_wp2
      go_round
      case rel => exact ⟨4, rfl, .inr (.inr (.inr (.inr ⟨rfl, val_int (by omega)⟩)))⟩
      case measure => first | (simp [intOf]; done) | (simp [intOf]; omega)
    · go_wp2
      go_ret
      refine ⟨ret_int ?_, (by repeat (first | (with_reducible exact Below.refl _ _) | (with_reducible assumption) | (with_reducible refine Below.drew ?_) | (with_reducible refine below_drewN ?_ _) | ((with_reducible refine Below.setCell ?_ ?_ _); rotate_left; (next => first | omega | exact Nat.le_refl _ | (refine Below.size (B := ?_) ?_; rotate_left; assumption) | (simp; done) | (simp; omega))) | ((with_reducible refine Below.alloc ?_ ?_ _); rotate_left; (next => first | omega | exact Nat.le_refl _ | (refine Below.size (B := ?_) ?_; rotate_left; assumption) | (simp; done) | (simp; omega))) | ((with_reducible refine Below.trans (b := ?_) ?_ (Below.mono (B := ?_) ?_ ?_)); rotate_left 3; (next => (with_reducible assumption)); (next => first | omega | exact Nat.le_refl _ | (refine Below.size (B := ?_) ?_; rotate_left; assumption) | (simp; done) | (simp; omega))) | exact Below.refl _ _ | assumption | refine Below.drew ?_ | refine below_drewN ?_ _ | refine Below.alloc ?_ (by first | omega | exact Below.size (by assumption) | (simp; done) | (simp; omega)) _ | refine Below.setCell ?_ (by first | omega | exact Below.size (by assumption) | (simp; done) | (simp; omega)) _ | refine Below.trans ?_ (Below.mono (by assumption) (by first | omega | exact Below.size (by assumption) | (simp; done) | (simp; omega)))))⟩
      have hp : (0 : Int) < 2 ^ (32 - m) := Int.pow_pos (by omega)
      have hle := Int.ediv_mul_le (((a * 256 + b) * 256 + c) * 256 + d) (b := 2 ^ (32 - m)) (by omega)
      have hnn : 0 ≤ (((a * 256 + b) * 256 + c) * 256 + d) / 2 ^ (32 - m) * 2 ^ (32 - m) := Int.mul_nonneg (Int.ediv_nonneg (by omega) (by omega)) (by omega)
      exact IntWalk.wrap64_in _ ⟨by omega, by omega⟩

theorem pre_beq (v q : Int) (m : Nat) : (pre v m * 2 ^ (32 - m) == pre q m * 2 ^ (32 - m)) = decide (pre v m = pre q m) := by
  have hp : (2 : Int) ^ (32 - m) ≠ 0 := Int.ne_of_gt (Int.pow_pos (by omega))
  rw [Bool.eq_iff_iff]
  simp only [beq_iff_eq, decide_eq_true_eq]
  exact ⟨fun h => Int.eq_of_mul_eq_mul_right hp h, fun h => by rw [h]⟩
end Go.Proofs.Ytpknjfeiiaopgaa.Trie
