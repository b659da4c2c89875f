/- Walks: slide.Smooth; the reference's UFloor, USmooth. -/
import Derived.Test.YtlmnlffbbbcodaaSlideS
import Derived.Deep.Cut
namespace Go.Proofs.Ytlmnlffbbbcodaa.Slide
open Go.RowKit Go.Proofs.Ytlmnlffbbbcodaa.Big

/-- What it is on an average, times D. -/
def avg (D y0 : Int) (l : List Int) (k : Nat) : Int := (l.take k).foldl (fun a x => a + (x - a / D)) y0
theorem avg_zero (D y0 : Int) (l : List Int) : avg D y0 l 0 = y0 := rfl
theorem avg_succ {D y0 : Int} {l : List Int} {k : Nat} (h : k < l.length) : avg D y0 l (k + 1) = avg D y0 l k + (l[k] - avg D y0 l k / D) := by
  unfold avg
  rw [List.take_succ_eq_append_getElem h, List.foldl_append]; rfl
theorem avg_bd1 {D a x : Int} (hD : 1 ≤ D) (ha : -1073741824 * D ≤ a ∧ a ≤ 1073741824 * D) (hx : -1073741824 ≤ x ∧ x ≤ 1073741824) :
    -1073741824 * D ≤ a + (x - a / D) ∧ a + (x - a / D) ≤ 1073741824 * D ∧ -1073741824 ≤ a / D ∧ a / D ≤ 1073741824 := by
  have h1 := Int.emod_add_mul_ediv a D
  have h2 := Int.emod_nonneg a (show D ≠ 0 by omega)
  have h3 := Int.emod_lt_of_pos a (show 0 < D by omega)
  have q1 : -1073741824 ≤ a / D := (Int.le_ediv_iff_mul_le (by omega)).2 ha.1
  have q2 : a / D ≤ 1073741824 := by
    have : a / D < 1073741824 + 1 := (Int.ediv_lt_iff_lt_mul (by omega)).2 (by rw [Int.add_mul]; omega)
    omega
  generalize a / D = q at *
  generalize a % D = r at *
  obtain ⟨E, rfl⟩ : ∃ E, D = E + 1 := ⟨D - 1, by omega⟩
  have h4 : (E + 1) * q = E * q + q := by rw [Int.add_mul]; omega
  have h5 : E * q ≤ E * 1073741824 := Int.mul_le_mul_of_nonneg_left q2 (by omega)
  have h6 : E * (-1073741824) ≤ E * q := Int.mul_le_mul_of_nonneg_left q1 (by omega)
  have h7 : q = 1073741824 ∨ E * q ≤ E * (1073741824 - 1) := by
    by_cases h : q = 1073741824
    · exact .inl h
    · exact .inr (Int.mul_le_mul_of_nonneg_left (by omega) (by omega))
  generalize (E + 1) * q = u at *
  generalize E * q = v at *
  omega
theorem avg_bd {D y0 : Int} {l : List Int} (hD : 1 ≤ D) (h0 : -1073741824 * D ≤ y0 ∧ y0 ≤ 1073741824 * D) (hl : l.all uok = true) : ∀ k, k ≤ l.length → -1073741824 * D ≤ avg D y0 l k ∧ avg D y0 l k ≤ 1073741824 * D
  | 0, _ => h0
  | k + 1, hk => by
    rw [avg_succ (by omega)]
    have := avg_bd1 hD (avg_bd hD h0 hl k (by omega)) (uok_iff.1 (List.all_eq_true.1 hl _ (List.getElem_mem (by omega : k < l.length))))
    exact ⟨this.1, this.2.1⟩
def avgs (D y0 : Int) (l : List Int) (k : Nat) : List Int := (List.range k).map fun j => avg D y0 l (j + 1) / D
theorem avgs_succ (D y0 : Int) (l : List Int) (k : Nat) : avgs D y0 l (k + 1) = avgs D y0 l k ++ [avg D y0 l (k + 1) / D] := by simp [avgs, List.range_succ]
theorem avgs_len (D y0 : Int) (l : List Int) (k : Nat) : (avgs D y0 l k).length = k := by simp [avgs]

/-- The arguments may not be. -/
inductive BadS (sh fi : Int) (l : List Int) : Prop
  | a (h : sh < 0)
  | b (h : 0 ≤ sh) (h1 : 10 < sh)
  | c (h : 0 ≤ sh) (h1 : sh ≤ 10) (h2 : bad 1 l = true)
  | d (h : 0 ≤ sh) (h1 : sh ≤ 10) (h2 : bad 1 l = false) (h3 : fi < -1073741824)
  | e (h : 0 ≤ sh) (h1 : sh ≤ 10) (h2 : bad 1 l = false) (h3 : -1073741824 ≤ fi) (h4 : 1073741824 < fi)
theorem bads_or (sh fi : Int) (l : List Int) : BadS sh fi l ∨ (0 ≤ sh ∧ sh ≤ 10 ∧ bad 1 l = false ∧ -1073741824 ≤ fi ∧ fi ≤ 1073741824) := by
  by_cases h : sh < 0
  · exact .inl (.a h)
  by_cases h1 : 10 < sh
  · exact .inl (.b (by omega) h1)
  cases h2 : bad 1 l
  · by_cases h3 : fi < -1073741824
    · exact .inl (.d (by omega) (by omega) h2 h3)
    by_cases h4 : 1073741824 < fi
    · exact .inl (.e (by omega) (by omega) h2 (by omega) h4)
    exact .inr ⟨by omega, by omega, rfl, by omega, by omega⟩
  · exact .inl (.c (by omega) (by omega) h2)

set_option maxHeartbeats 1000000 in
theorem smooth_bad (sh fi : Int) (A : Option Addr) (n c : Nat) (l : List Int) (w : World) (hr : RdI .i64 w A l) (hn : l.length = n) (hm : n ≤ 140737488355328) (h : BadS sh fi l) :
    Calls Try.prog 46 #[(.int .i64 sh), (.int .i64 fi), .slice A n c] w fun e w' => e = .returned (.tuple #[.slice none 0 0, (.int .i64 2)]) ∧ Below w.heap.size w w' := by
  have hw := wrong_any 1 A n c l w hr hn hm
  rcases h with h | ⟨h, h1⟩ | ⟨h, h1, h2⟩ | ⟨h, h1, h2, h3⟩ | ⟨h, h1, h2, h3, h4⟩
  all_goals
    try rw [h2] at hw
    try clear h2
    have HW := Lib.hid hw
    clear hw hr hn
    go_enter Try.func46, Try.ntmps46
    go_wp2_with fail
    try (refine HW.out.mono ?_; rintro e w1 ⟨rfl, rfl⟩; go_wp2_with fail)
    go_ret2
    exact ⟨rfl, (by repeat (first | (with_reducible exact Below.refl _ _) | (with_reducible assumption) | (with_reducible refine Below.drew ?_) | (with_reducible refine below_drewN ?_ _) | ((with_reducible refine Below.setCell ?_ ?_ _); rotate_left; (next => first | omega | exact Nat.le_refl _ | (refine Below.size (B := ?_) ?_; rotate_left; assumption) | (simp; done) | (simp; omega))) | ((with_reducible refine Below.alloc ?_ ?_ _); rotate_left; (next => first | omega | exact Nat.le_refl _ | (refine Below.size (B := ?_) ?_; rotate_left; assumption) | (simp; done) | (simp; omega))) | ((with_reducible refine Below.trans (b := ?_) ?_ (Below.mono (B := ?_) ?_ ?_)); rotate_left 3; (next => (with_reducible assumption)); (next => first | omega | exact Nat.le_refl _ | (refine Below.size (B := ?_) ?_; rotate_left; assumption) | (simp; done) | (simp; omega)))))⟩

set_option maxHeartbeats 1000000 in
theorem usmooth_bad (sh fi : Int) (A : Option Addr) (n c : Nat) (l : List Int) (w : World) (hr : RdI .i64 w A l) (hn : l.length = n) (hm : n ≤ 140737488355328) (h : BadS sh fi l) :
    Calls Try.prog 47 #[(.int .i64 sh), (.int .i64 fi), .slice A n c] w fun e w' => e = .returned (.tuple #[.slice none 0 0, (.int .i64 2)]) ∧ Below w.heap.size w w' := by
  have hw := uwrong_any 1 A n c l w hr hn hm
  rcases h with h | ⟨h, h1⟩ | ⟨h, h1, h2⟩ | ⟨h, h1, h2, h3⟩ | ⟨h, h1, h2, h3, h4⟩
  all_goals
    try rw [h2] at hw
    try clear h2
    have HW := Lib.hid hw
    clear hw hr hn
    go_enter Try.func47, Try.ntmps47
    go_wp2_with fail
    try (refine HW.out.mono ?_; rintro e w1 ⟨rfl, rfl⟩; go_wp2_with fail)
    go_ret2
    exact ⟨rfl, (by repeat (first | (with_reducible exact Below.refl _ _) | (with_reducible assumption) | (with_reducible refine Below.drew ?_) | (with_reducible refine below_drewN ?_ _) | ((with_reducible refine Below.setCell ?_ ?_ _); rotate_left; (next => first | omega | exact Nat.le_refl _ | (refine Below.size (B := ?_) ?_; rotate_left; assumption) | (simp; done) | (simp; omega))) | ((with_reducible refine Below.alloc ?_ ?_ _); rotate_left; (next => first | omega | exact Nat.le_refl _ | (refine Below.size (B := ?_) ?_; rotate_left; assumption) | (simp; done) | (simp; omega))) | ((with_reducible refine Below.trans (b := ?_) ?_ (Below.mono (B := ?_) ?_ ?_)); rotate_left 3; (next => (with_reducible assumption)); (next => first | omega | exact Nat.le_refl _ | (refine Below.size (B := ?_) ?_; rotate_left; assumption) | (simp; done) | (simp; omega)))))⟩

theorem floor_eq {n D : Int} (hD : 1 ≤ D) : (n.tdiv D * D ≤ n → n.tdiv D = n / D) ∧ (n < n.tdiv D * D → n.tdiv D - 1 = n / D) ∧ (-(n.natAbs : Int) ≤ n.tdiv D * D ∧ n.tdiv D * D ≤ n.natAbs) ∧ -(n.natAbs : Int) ≤ n.tdiv D ∧ n.tdiv D ≤ n.natAbs := by
  have h1 := Int.mul_tdiv_add_tmod n D
  have h2 := Int.mul_ediv_add_emod n D
  have h3 := Int.emod_nonneg n (show D ≠ 0 by omega)
  have h4 := Int.emod_lt_of_pos n (show 0 < D by omega)
  have h5 : n.tdiv D = n / D ∨ (n.tdiv D = n / D + 1 ∧ n < 0 ∧ n % D ≠ 0) := by
    rw [Int.tdiv_eq_ediv]
    split
    · left; omega
    · right
      rw [Int.sign_eq_one_of_pos (by omega)]
      rename_i h
      exact ⟨rfl, by omega, fun e => h (.inr (Int.dvd_of_emod_eq_zero e))⟩
  have hc : n.tdiv D * D = D * n.tdiv D := Int.mul_comm _ _
  have hb1 := Int.natAbs_tdiv_le_natAbs n D
  have hb2 : -(n.natAbs : Int) ≤ n.tdiv D ∧ n.tdiv D ≤ n.natAbs := by omega
  have hs := Int.natAbs_tmod n D
  have hm : (n.tmod D).natAbs ≤ n.natAbs := by rw [hs]; exact Nat.mod_le _ _
  rw [hc]
  rcases h5 with h5 | ⟨h5, h6, h7⟩
  · have hp : D * n.tdiv D = D * (n / D) := by rw [h5]
    refine ⟨fun _ => h5, fun h => by omega, ?_, hb2⟩
    rcases Int.lt_or_le n 0 with h8 | h8
    · have := Int.tmod_nonneg D (show 0 ≤ -n by omega)
      rw [Int.neg_tmod] at this
      omega
    · have := Int.tmod_nonneg D h8
      omega
  · have hp : D * n.tdiv D = D * (n / D) + D := by rw [h5, Int.mul_add, Int.mul_one]
    refine ⟨fun h => by omega, fun _ => by omega, ?_, hb2⟩
    omega

set_option maxHeartbeats 1000000 in
theorem ufloor_any (a D : Int) (w : World) (hD : 1 ≤ D) (hD2 : D ≤ 1024) (ha : -4611686018427387904 ≤ a ∧ a ≤ 4611686018427387904) :
    Calls Try.prog 85 #[(.int .i64 a), (.int .i64 D)] w fun e w' => e = .returned (.int .i64 (a / D)) ∧ w = w' := by
  obtain ⟨f1, f2, ⟨f3, f4⟩, f5, f6⟩ := floor_eq (n := a) hD
  have e1 : Hid (IntKind.i64.wrap (a.tdiv D) = a.tdiv D) := Lib.hid (IntWalk.i64_in _ (by omega))
  have e2 : Hid (IntKind.i64.wrap (a.tdiv D * D) = a.tdiv D * D) := Lib.hid (IntWalk.i64_in _ (by omega))
  have hD0 : (D == 0) = false := by simp; omega
  have hD1 : (D == -1) = false := by simp; omega
  rcases Int.lt_or_le a (a.tdiv D * D) with h | h
  · have HF := Lib.hid (f2 h)
    clear f1 f2
    go_enter Try.func85, Try.ntmps85
    go_wp2_with fail
    go_ret
    exact ⟨ret_int HF.out, rfl⟩
  · have HF := Lib.hid (f1 h)
    clear f1 f2
    go_enter Try.func85, Try.ntmps85
    go_wp2_with fail
    go_ret
    exact ⟨ret_int HF.out, rfl⟩

theorem pow_bd {s : Nat} (h : s ≤ 10) : (1 : Int) ≤ 2 ^ s ∧ (2 : Int) ^ s ≤ 1024 := by
  match s, h with
  | 0, _ | 1, _ | 2, _ | 3, _ | 4, _ | 5, _ | 6, _ | 7, _ | 8, _ | 9, _ | 10, _ => decide
theorem mul_bd {D fi : Int} (hD : 1 ≤ D) (h : -1073741824 ≤ fi ∧ fi ≤ 1073741824) : -1073741824 * D ≤ fi * D ∧ fi * D ≤ 1073741824 * D :=
  ⟨Int.mul_le_mul_of_nonneg_right h.1 (by omega), Int.mul_le_mul_of_nonneg_right h.2 (by omega)⟩

/-- What the walks of Smooth ask of its numbers. -/
structure Sm (D y0 : Int) (l : List Int) (n : Nat) : Prop where
  b : ∀ k, k ≤ n → -1099511627776 ≤ avg D y0 l k ∧ avg D y0 l k ≤ 1099511627776
  q : ∀ k, k ≤ n → -1073741824 ≤ avg D y0 l k / D ∧ avg D y0 l k / D ≤ 1073741824
theorem sm_ok {D fi : Int} {l : List Int} (hD : 1 ≤ D) (hD2 : D ≤ 1024) (hl : l.all uok = true) (h : -1073741824 ≤ fi ∧ fi ≤ 1073741824) : Sm D (fi * D) l l.length := by
  refine ⟨fun k hk => ?_, fun k hk => ?_⟩
  · have := avg_bd hD (mul_bd hD h) hl k hk
    omega
  · have h1 := avg_bd hD (mul_bd hD h) hl k hk
    have := avg_bd1 (x := 0) hD h1 (by omega)
    exact this.2.2

set_option maxRecDepth 100000 in
set_option maxHeartbeats 2000000 in
theorem smooth_ok (s : Nat) (fi : Int) (A : Option Addr) (n c : Nat) (l : List Int) (w : World) (hr : RdI .i64 w A l) (hn : l.length = n) (hs : s ≤ 10) (h : bad 1 l = false) (f0 : -1073741824 ≤ fi) (f1 : fi ≤ 1073741824) :
    Calls Try.prog 46 #[(.int .i64 s), (.int .i64 fi), .slice A n c] w fun e w' => ∃ A' c', e = .returned (.tuple #[.slice A' n c', (.int .i64 0)]) ∧ RdI .i64 w' A' (avgs (2 ^ s) (fi * 2 ^ s) l n) ∧ Below w.heap.size w w' := by
  obtain ⟨g1, g2, g3, g4⟩ := good_parts h
  rw [hn] at g3
  have HW := Lib.hid (h ▸ wrong_any 1 A n c l w hr hn (by omega))
  obtain ⟨d1, d2⟩ := pow_bd hs
  have Hsm := Lib.hid (hn ▸ sm_ok d1 d2 g4 ⟨f0, f1⟩)
  have hm := mul_bd d1 ⟨f0, f1⟩
  have Hall := Lib.hid g4
  have Hr := Lib.hid hr
  have Hn := Lib.hid hn
  have hss : (0 : Int) ≤ s ∧ (s : Int) ≤ 10 := by omega
  have Hw0 : Hid (IntKind.i64.wrap (fi * 2 ^ s) = fi * 2 ^ s) := Lib.hid (IntWalk.i64_in _ (by omega))
  clear hr hn h g4
  go_enter Try.func46, Try.ntmps46
  go_wp2_with fail
  refine HW.out.mono ?_
  rintro e w1 ⟨rfl, rfl⟩
  go_upto_region 4 with (fail)
  obtain ⟨y0, Hy0⟩ : ∃ y, Hid (fi * 2 ^ s = y) := ⟨_, Lib.hid rfl⟩
  rw [Hy0.out] at Hsm hm ⊢
  clear Hw0
  go_wp2_with fail
  go_loopw [8, 9, 35] (fun sv v i wr => ∃ k : Nat, k ≤ n ∧ i = .int .i64 k ∧ sv = .int .i64 (avg (2 ^ s) y0 l k) ∧ OwnI wr w.heap.size 3 .i64 v (avgs (2 ^ s) y0 l k) ∧ Below w.heap.size w wr) (fun _ _ i _ => n - (intOf i).toNat)
  case atStart => exact ⟨0, by omega, rfl, by rw [avg_zero], OwnI.nil _ _ _ _, (by repeat (first | (with_reducible exact Below.refl _ _) | (with_reducible assumption) | (with_reducible refine Below.drew ?_) | (with_reducible refine below_drewN ?_ _) | ((with_reducible refine Below.setCell ?_ ?_ _); rotate_left; (next => first | omega | exact Nat.le_refl _ | (refine Below.size (B := ?_) ?_; rotate_left; assumption) | (simp; done) | (simp; omega))) | ((with_reducible refine Below.alloc ?_ ?_ _); rotate_left; (next => first | omega | exact Nat.le_refl _ | (refine Below.size (B := ?_) ?_; rotate_left; assumption) | (simp; done) | (simp; omega))) | ((with_reducible refine Below.trans (b := ?_) ?_ (Below.mono (B := ?_) ?_ ?_)); rotate_left 3; (next => (with_reducible assumption)); (next => first | omega | exact Nat.le_refl _ | (refine Below.size (B := ?_) ?_; rotate_left; assumption) | (simp; done) | (simp; omega)))))⟩
  case round =>
    obtain ⟨k, hk, rfl, rfl, ho, hbw⟩ := hrel
    have hsz := hbw.size
    have Ho := Lib.hid ho
    have hb1 := Hsm.out.b k hk
    have hq1 := Hsm.out.q k hk
    clear ho
    by_cases hlt : k < n
    · have hl : k < l.length := by have := Hn.out; omega
      obtain ⟨b, off, rfl, hbl, hc⟩ := RdI.atn Hr.out hbw hl
      have hx := uok_iff.1 (List.all_eq_true.1 Hall.out _ (List.getElem_mem hl))
      have hb2 := Hsm.out.b (k + 1) hlt
      have hq2 := Hsm.out.q (k + 1) hlt
      have Hs := Lib.hid (avgs_succ (2 ^ s) y0 l k)
      have Hv := Lib.hid (avg_succ (D := (2 ^ s)) (y0 := y0) hl)
      obtain ⟨x, Hx⟩ : ∃ x, Hid (l[k] = x) := ⟨_, Lib.hid rfl⟩
      rw [Hx.out] at hc hx Hv
      obtain ⟨a, Ha⟩ : ∃ x, Hid (avg (2 ^ s) y0 l k = x) := ⟨_, Lib.hid rfl⟩
      obtain ⟨a', Ha'⟩ : ∃ x, Hid (avg (2 ^ s) y0 l (k + 1) = x) := ⟨_, Lib.hid rfl⟩
      rw [Ha.out] at hb1 hq1 Hv ⊢
      rw [Ha'.out] at hb2 hq2 Hs Hv
      obtain ⟨q, hq⟩ : ∃ q, a / (2 ^ s) = q := ⟨_, rfl⟩
      obtain ⟨q', hq'⟩ : ∃ q, a' / (2 ^ s) = q := ⟨_, rfl⟩
      rw [hq] at hq1 Hv
      rw [hq'] at hq2 Hs
      have hav : a + (x - q) = a' := Hv.out.symm
      clear Hv
      go_wp2_with (at_builtin; refine wpList_app1 rfl _ _ 23 rfl 3 .i64 8 Try.underlying23 infoI8 w.heap.size (avgs (2 ^ s) y0 l k) q' _ rfl _ rfl (by decide) ?own ?cell ?len ?base ?_)
      case own => exact Ho.out.alloc _
      case cell => simp [go_sem, *]
      case len => (have := avgs_len (2 ^ s) y0 l k; omega)
      case base => first | omega | (simp; done) | (simp; omega)
      intro v' w2 hown hgr
      have hB2 : Below w.heap.size w w2 := Below.grown (hbw.alloc hsz _) hgr (by first | omega | (simp; done) | (simp; omega)) (fun g hg => (World.ownsRow.lt Ho.out g hg).1)
      go_wp2_with fail
      go_roundw
      case rel => exact ⟨k + 1, by omega, by go_num, by rw [Ha'.out], by rw [Hs.out]; exact hown, hB2⟩
      case measure => first | (simp [intOf]; done) | (simp [intOf]; omega)
    · obtain rfl : k = n := by omega
      obtain ⟨A3, c3, rfl, _, hrd, _⟩ := Ho.out.form
      rw [avgs_len] at Ho ⊢
      go_wp2_with fail
      go_ret2
      exact ⟨A3, c3, rfl, by rw [Hy0.out]; exact hrd, (by repeat (first | (with_reducible exact Below.refl _ _) | (with_reducible assumption) | (with_reducible refine Below.drew ?_) | (with_reducible refine below_drewN ?_ _) | ((with_reducible refine Below.setCell ?_ ?_ _); rotate_left; (next => first | omega | exact Nat.le_refl _ | (refine Below.size (B := ?_) ?_; rotate_left; assumption) | (simp; done) | (simp; omega))) | ((with_reducible refine Below.alloc ?_ ?_ _); rotate_left; (next => first | omega | exact Nat.le_refl _ | (refine Below.size (B := ?_) ?_; rotate_left; assumption) | (simp; done) | (simp; omega))) | ((with_reducible refine Below.trans (b := ?_) ?_ (Below.mono (B := ?_) ?_ ?_)); rotate_left 3; (next => (with_reducible assumption)); (next => first | omega | exact Nat.le_refl _ | (refine Below.size (B := ?_) ?_; rotate_left; assumption) | (simp; done) | (simp; omega)))))⟩

set_option maxRecDepth 100000 in
set_option maxHeartbeats 2000000 in
theorem usmooth_ok (s : Nat) (fi : Int) (A : Option Addr) (n c : Nat) (l : List Int) (w : World) (hr : RdI .i64 w A l) (hn : l.length = n) (hs : s ≤ 10) (h : bad 1 l = false) (f0 : -1073741824 ≤ fi) (f1 : fi ≤ 1073741824) :
    Calls Try.prog 47 #[(.int .i64 s), (.int .i64 fi), .slice A n c] w fun e w' => ∃ A' c', e = .returned (.tuple #[.slice A' n c', (.int .i64 0)]) ∧ RdI .i64 w' A' (avgs (2 ^ s) (fi * 2 ^ s) l n) ∧ Below w.heap.size w w' := by
  obtain ⟨g1, g2, g3, g4⟩ := good_parts h
  rw [hn] at g3
  have HW := Lib.hid (h ▸ uwrong_any 1 A n c l w hr hn (by omega))
  obtain ⟨d1, d2⟩ := pow_bd hs
  have Hsm := Lib.hid (hn ▸ sm_ok d1 d2 g4 ⟨f0, f1⟩)
  have hm := mul_bd d1 ⟨f0, f1⟩
  have Hpow : Hid (∀ k, k ≤ s → (1 : Int) ≤ 2 ^ k ∧ (2 : Int) ^ k ≤ 1024) := Lib.hid fun k hk => pow_bd (by omega)
  have Hall := Lib.hid g4
  have Hr := Lib.hid hr
  have Hn := Lib.hid hn
  have hss : (0 : Int) ≤ s ∧ (s : Int) ≤ 10 := by omega
  clear hr hn h g4
  obtain ⟨D, HD⟩ : ∃ D : Int, Hid ((2 : Int) ^ s = D) := ⟨_, Lib.hid rfl⟩
  rw [HD.out] at Hsm hm d1 d2 ⊢
  have HU : Hid (∀ (a : Int) (W : World), -4611686018427387904 ≤ a ∧ a ≤ 4611686018427387904 → Calls Try.prog 85 #[(.int .i64 a), (.int .i64 D)] W fun e w' => e = .returned (.int .i64 (a / D)) ∧ W = w') := Lib.hid fun a W h => ufloor_any a D W d1 d2 h
  go_enter Try.func47, Try.ntmps47
  go_wp2_with fail
  refine HW.out.mono ?_
  rintro e w1 ⟨rfl, rfl⟩
  go_wp2_with fail
  go_loop [8, 32] (fun d i => ∃ k : Nat, k ≤ s ∧ i = .int .i64 k ∧ d = .int .i64 (2 ^ k)) (fun _ i => s - (intOf i).toNat)
  case atStart => exact ⟨0, by omega, rfl, rfl⟩
  case round =>
    obtain ⟨k, hk, rfl, rfl⟩ := hrel
    obtain ⟨p1, p2⟩ := Hpow.out k hk
    have Hpd : Hid (k = s → (2 : Int) ^ k = D) := Lib.hid fun h => by rw [h, HD.out]
    have Hps : Hid ((2 : Int) ^ (k + 1) = 2 ^ k * 2) := Lib.hid (by rw [Int.pow_succ])
    obtain ⟨E, HE⟩ : ∃ E : Int, Hid ((2 : Int) ^ k = E) := ⟨_, Lib.hid rfl⟩
    rw [HE.out] at p1 p2 Hpd Hps ⊢
    by_cases hlt : k < s
    · go_wp2_with fail
      go_round
      case rel => exact ⟨k + 1, by omega, by go_num, by rw [Hps.out]⟩
      case measure => first | (simp [intOf]; done) | (simp [intOf]; omega)
    · obtain rfl : E = D := Hpd.out (by omega)
      go_upto_region 10 with (fail)
      obtain ⟨y0, Hy0⟩ : ∃ y, Hid (fi * E = y) := ⟨_, Lib.hid rfl⟩
      rw [Hy0.out] at Hsm hm ⊢
      go_wp2_with fail
      go_loopw [9, 10, 42] (fun sv v i wr => ∃ k : Nat, k ≤ n ∧ i = .int .i64 k ∧ sv = .int .i64 (avg E y0 l k) ∧ OwnI wr w.heap.size 3 .i64 v (avgs E y0 l k) ∧ Below w.heap.size w wr) (fun _ _ i _ => n - (intOf i).toNat)
      case atStart => exact ⟨0, by omega, rfl, by rw [avg_zero], OwnI.nil _ _ _ _, (by repeat (first | (with_reducible exact Below.refl _ _) | (with_reducible assumption) | (with_reducible refine Below.drew ?_) | (with_reducible refine below_drewN ?_ _) | ((with_reducible refine Below.setCell ?_ ?_ _); rotate_left; (next => first | omega | exact Nat.le_refl _ | (refine Below.size (B := ?_) ?_; rotate_left; assumption) | (simp; done) | (simp; omega))) | ((with_reducible refine Below.alloc ?_ ?_ _); rotate_left; (next => first | omega | exact Nat.le_refl _ | (refine Below.size (B := ?_) ?_; rotate_left; assumption) | (simp; done) | (simp; omega))) | ((with_reducible refine Below.trans (b := ?_) ?_ (Below.mono (B := ?_) ?_ ?_)); rotate_left 3; (next => (with_reducible assumption)); (next => first | omega | exact Nat.le_refl _ | (refine Below.size (B := ?_) ?_; rotate_left; assumption) | (simp; done) | (simp; omega)))))⟩
      case round =>
        obtain ⟨k, hk, rfl, rfl, ho, hbw⟩ := hrel
        have hsz := hbw.size
        have Ho := Lib.hid ho
        have hb1 := Hsm.out.b k hk
        have hq1 := Hsm.out.q k hk
        clear ho
        by_cases hlt : k < n
        · have hl : k < l.length := by have := Hn.out; omega
          obtain ⟨b, off, rfl, hbl, hc⟩ := RdI.atn Hr.out hbw hl
          have hx := uok_iff.1 (List.all_eq_true.1 Hall.out _ (List.getElem_mem hl))
          have hb2 := Hsm.out.b (k + 1) hlt
          have hq2 := Hsm.out.q (k + 1) hlt
          have Hs := Lib.hid (avgs_succ E y0 l k)
          have Hv := Lib.hid (avg_succ (D := E) (y0 := y0) hl)
          obtain ⟨x, Hx⟩ : ∃ x, Hid (l[k] = x) := ⟨_, Lib.hid rfl⟩
          rw [Hx.out] at hc hx Hv
          obtain ⟨a, Ha⟩ : ∃ x, Hid (avg E y0 l k = x) := ⟨_, Lib.hid rfl⟩
          obtain ⟨a', Ha'⟩ : ∃ x, Hid (avg E y0 l (k + 1) = x) := ⟨_, Lib.hid rfl⟩
          rw [Ha.out] at hb1 hq1 Hv ⊢
          rw [Ha'.out] at hb2 hq2 Hs Hv
          obtain ⟨q, hq⟩ : ∃ q, a / E = q := ⟨_, rfl⟩
          obtain ⟨q', hq'⟩ : ∃ q, a' / E = q := ⟨_, rfl⟩
          rw [hq] at hq1 Hv
          rw [hq'] at hq2 Hs
          have hav : a + x - q = a' := by have := Hv.out; omega
          clear Hv
          go_wp2_with fail
          refine (HU.out a _ (by omega)).mono ?_
          rintro e w3 ⟨rfl, rfl⟩
          rw [hq]
          go_wp2_with fail
          refine (HU.out a' _ (by omega)).mono ?_
          rintro e w3 ⟨rfl, rfl⟩
          rw [hq']
          go_wp2_with (at_builtin; refine wpList_app1 rfl _ _ 23 rfl 3 .i64 8 Try.underlying23 infoI8 w.heap.size (avgs E y0 l k) q' _ rfl _ rfl (by decide) ?own ?cell ?len ?base ?_)
          case own => exact Ho.out.alloc _
          case cell => simp [go_sem, *]
          case len => (have := avgs_len E y0 l k; omega)
          case base => first | omega | (simp; done) | (simp; omega)
          intro v' w2 hown hgr
          have hB2 : Below w.heap.size w w2 := Below.grown (hbw.alloc hsz _) hgr (by first | omega | (simp; done) | (simp; omega)) (fun g hg => (World.ownsRow.lt Ho.out g hg).1)
          go_wp2_with fail
          go_roundw
          case rel => exact ⟨k + 1, by omega, by go_num, by rw [Ha'.out], by rw [Hs.out]; exact hown, hB2⟩
          case measure => first | (simp [intOf]; done) | (simp [intOf]; omega)
        · obtain rfl : k = n := by omega
          obtain ⟨A3, c3, rfl, _, hrd, _⟩ := Ho.out.form
          rw [avgs_len] at Ho ⊢
          go_wp2_with fail
          go_ret2
          exact ⟨A3, c3, rfl, by rw [Hy0.out]; exact hrd, (by repeat (first | (with_reducible exact Below.refl _ _) | (with_reducible assumption) | (with_reducible refine Below.drew ?_) | (with_reducible refine below_drewN ?_ _) | ((with_reducible refine Below.setCell ?_ ?_ _); rotate_left; (next => first | omega | exact Nat.le_refl _ | (refine Below.size (B := ?_) ?_; rotate_left; assumption) | (simp; done) | (simp; omega))) | ((with_reducible refine Below.alloc ?_ ?_ _); rotate_left; (next => first | omega | exact Nat.le_refl _ | (refine Below.size (B := ?_) ?_; rotate_left; assumption) | (simp; done) | (simp; omega))) | ((with_reducible refine Below.trans (b := ?_) ?_ (Below.mono (B := ?_) ?_ ?_)); rotate_left 3; (next => (with_reducible assumption)); (next => first | omega | exact Nat.le_refl _ | (refine Below.size (B := ?_) ?_; rotate_left; assumption) | (simp; done) | (simp; omega)))))⟩
end Go.Proofs.Ytlmnlffbbbcodaa.Slide
