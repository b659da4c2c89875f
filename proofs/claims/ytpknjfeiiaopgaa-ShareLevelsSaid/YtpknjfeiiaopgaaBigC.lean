/- Walks: CmpAbs, Cmp, Uint64, Int64. -/
import Derived.Test.YtpknjfeiiaopgaaBigS
namespace Go.Proofs.Ytpknjfeiiaopgaa.Big
open Go.RowKit

def cmp (a b : Int) : Int := if a < b then -1 else if b < a then 1 else 0

theorem lt_len {x y : List Int} (hx : Dig x) (hy : Dig y) (ty : Trim y) (h : x.length < y.length) : dval x < dval y := by
  have h1 := dval_lt hx
  have h2 := ty.low hy (by rintro rfl; simp at h)
  have h3 := pw_mono (show x.length ≤ y.length - 1 by omega)
  omega
theorem lt_dig {x y : List Int} (hx : Dig x) (hy : Dig y) {k : Nat} (h1 : k < x.length) (h2 : k < y.length) (hd : x.drop (k + 1) = y.drop (k + 1)) (h : x[k] < y[k]) : dval x < dval y := by
  rw [dval_split x (k := k + 1) (by omega), dval_split y (k := k + 1) (by omega), dval_take_succ h1, dval_take_succ h2, hd]
  have a1 := dval_lt (hx.take k)
  have a2 := dval_nonneg (hy.take k)
  rw [List.length_take, Nat.min_eq_left (by omega)] at a1
  have := Int.mul_le_mul_of_nonneg_left (show x[k] + 1 ≤ y[k] by omega) (show 0 ≤ pw k by have := pw_pos k; omega)
  rw [Int.mul_add] at this
  omega
theorem drop_step {x y : List Int} {k : Nat} (h1 : k < x.length) (h2 : k < y.length) (hd : x.drop (k + 1) = y.drop (k + 1)) (h : x[k] = y[k]) : x.drop k = y.drop k := by
  rw [List.drop_eq_getElem_cons h1, List.drop_eq_getElem_cons h2, hd, h]

set_option maxHeartbeats 2000000 in
theorem cmpabs_raw (b o b' o' : Nat) (neg neg' : Bool) (x y : List Int) (w : World) (h : RawAt w b o neg x) (h' : RawAt w b' o' neg' y) (tx : Trim x) (ty : Trim y) (lx : x.length ≤ 1000) (ly : y.length ≤ 1000) :
    Calls Try.prog 130 #[.pointer (some ⟨b, o, none⟩), .pointer (some ⟨b', o', none⟩)] w fun e w' => e = .returned (.int .i64 (cmp (dval x) (dval y))) ∧ ∃ q, w' = w.drewN q := by
  obtain ⟨A, c, c0, c1, hc, hr⟩ := h.ex
  obtain ⟨A', c', c0', c1', hc', hr'⟩ := h'.ex
  have Hx := Lib.hid h.dig
  have Hy := Lib.hid h'.dig
  obtain ⟨n, Hn⟩ : ∃ n, Hid (x.length = n) := ⟨_, Lib.hid rfl⟩
  obtain ⟨m, Hm⟩ : ∃ m, Hid (y.length = m) := ⟨_, Lib.hid rfl⟩
  rw [Hn.out] at c1 hc lx
  rw [Hm.out] at c1' hc' ly
  by_cases hl : n < m
  · have HC : Hid (cmp (dval x) (dval y) = -1) := Lib.hid (by
      have := lt_len Hx.out Hy.out ty (by rw [Hn.out, Hm.out]; exact hl)
      rw [cmp, if_pos this])
    have hne : ((n : Int) == (m : Int)) = false := by simp; omega
    clear h h' hr hr' tx ty Hn Hm
    go_enter Try.func130, Try.ntmps130
    go_wp2_with fail
    go_quiet (fail)
    go_wp2_with fail
    go_quiet (fail)
    go_wp2_with fail
    go_ret
    exact ⟨ret_int HC.out.symm, (by first | exact ⟨_, rfl⟩ | (simp only [World.drewN_drewN]; exact ⟨_, rfl⟩))⟩
  by_cases hl2 : m < n
  · have HC : Hid (cmp (dval x) (dval y) = 1) := Lib.hid (by
      have := lt_len Hy.out Hx.out tx (by rw [Hn.out, Hm.out]; exact hl2)
      rw [cmp, if_neg (by omega), if_pos this])
    clear h h' hr hr' tx ty Hn Hm
    go_enter Try.func130, Try.ntmps130
    go_wp2_with fail
    go_quiet (fail)
    go_wp2_with fail
    go_quiet (fail)
    go_wp2_with fail
    go_ret
    exact ⟨ret_int HC.out.symm, (by first | exact ⟨_, rfl⟩ | (simp only [World.drewN_drewN]; exact ⟨_, rfl⟩))⟩
  obtain rfl : n = m := by omega
  clear h h' tx ty hl hl2
  have Hr := Lib.hid hr
  have Hr' := Lib.hid hr'
  clear hr hr'
  go_enter Try.func130, Try.ntmps130
  go_wp2_with fail
  go_quiet (fail)
  go_wp2_with fail
  go_loopw [5] (fun i W => ∃ k : Nat, k ≤ n ∧ i = .int .i64 ((k : Int) - 1) ∧ x.drop k = y.drop k ∧ ∃ q, W = w.drewN q) (fun i _ => (intOf i + 1).toNat)
  case atStart => exact ⟨n, Nat.le_refl _, rfl, by rw [List.drop_eq_nil_of_le (by have := Hn.out; omega), List.drop_eq_nil_of_le (by have := Hm.out; omega)], _, rfl⟩
  case round =>
    obtain ⟨k, hk, rfl, hd, q, rfl⟩ := hrel
    have Hd := Lib.hid hd; clear hd
    match k with
    | 0 =>
      have HC : Hid (cmp (dval x) (dval y) = 0) := Lib.hid (by
        have := Hd.out
        rw [List.drop_zero, List.drop_zero] at this
        rw [this, cmp, if_neg (by omega), if_neg (by omega)])
      simp only [Int.ofNat_zero, Int.zero_sub]
      go_wp2_with fail
      go_ret
      exact ⟨ret_int HC.out.symm, (by first | exact ⟨_, rfl⟩ | (simp only [World.drewN_drewN]; exact ⟨_, rfl⟩))⟩
    | k + 1 =>
      have l1 : k < x.length := by have := Hn.out; omega
      have l2 : k < y.length := by have := Hm.out; omega
      obtain ⟨g, off, rfl, hcell⟩ := Hr.out.at_ l1
      obtain ⟨g', off', rfl, hcell'⟩ := Hr'.out.at_ l2
      simp only [show ((k + 1 : Nat) : Int) - 1 = (k : Int) from by omega]
      by_cases he : x[k] = y[k]
      · have HE := Lib.hid (drop_step l1 l2 Hd.out he)
        rw [← he] at hcell'
        generalize x[k] = u at hcell hcell'
        clear he
        go_wp2_with fail
        go_quiet (fail)
        go_wp2_with fail
        go_roundw
        case rel => exact ⟨k, by omega, rfl, HE.out, _, rfl⟩
        case measure => first | (simp [intOf]; done) | (simp [intOf]; omega)
      · by_cases hlt : x[k] < y[k]
        · have HC : Hid (cmp (dval x) (dval y) = -1) := Lib.hid (by
            have := lt_dig Hx.out Hy.out l1 l2 Hd.out hlt
            rw [cmp, if_pos this])
          have hne : (x[k] == y[k]) = false := by simpa using he
          generalize x[k] = u at hcell hlt hne
          generalize y[k] = v at hcell' hlt hne
          clear he
          go_wp2_with fail
          go_quiet (fail)
          go_wp2_with fail
          go_quiet (fail)
          go_wp2_with fail
          go_ret
          exact ⟨ret_int HC.out.symm, (by first | exact ⟨_, rfl⟩ | (simp only [World.drewN_drewN]; exact ⟨_, rfl⟩))⟩
        · have HC : Hid (cmp (dval x) (dval y) = 1) := Lib.hid (by
            have := lt_dig Hy.out Hx.out l2 l1 Hd.out.symm (by omega)
            rw [cmp, if_neg (by omega), if_pos this])
          have hne : (x[k] == y[k]) = false := by simpa using he
          generalize x[k] = u at hcell hlt hne
          generalize y[k] = v at hcell' hlt hne
          clear he
          go_wp2_with fail
          go_quiet (fail)
          go_wp2_with fail
          go_quiet (fail)
          go_wp2_with fail
          go_ret
          exact ⟨ret_int HC.out.symm, (by first | exact ⟨_, rfl⟩ | (simp only [World.drewN_drewN]; exact ⟨_, rfl⟩))⟩

theorem sg_abs {neg : Bool} {ds : List Int} (hd : Dig ds) : ((sg neg (dval ds)).natAbs : Int) = dval ds := by
  have := dval_nonneg hd
  cases neg <;> simp only [sg, if_true, Bool.false_eq_true, if_false] <;> omega

theorem cmpabs_any (b o b' o' : Nat) (x y : Int) (w : World) (h : IntAt w b o x) (h' : IntAt w b' o' y) (hx : Sm x) (hy : Sm y) :
    Calls Try.prog 130 #[.pointer (some ⟨b, o, none⟩), .pointer (some ⟨b', o', none⟩)] w fun e w' => e = .returned (.int .i64 (cmp x.natAbs y.natAbs)) ∧ ∃ q, w' = w.drewN q := by
  obtain ⟨neg, ds, h1, h2, h3, rfl⟩ := h.ex
  obtain ⟨neg', ds', h1', h2', h3', rfl⟩ := h'.ex
  rw [sg_abs h1.dig, sg_abs h1'.dig]
  exact cmpabs_raw b o b' o' neg neg' ds ds' w h1 h1' h2 h2' (hx.len h2 h1.dig) (hy.len h2' h1'.dig)

set_option maxHeartbeats 2000000 in
theorem cmp_any (b o b' o' : Nat) (x y : Int) (w : World) (h : IntAt w b o x) (h' : IntAt w b' o' y) (hx : Sm x) (hy : Sm y) :
    Calls Try.prog 105 #[.pointer (some ⟨b, o, none⟩), .pointer (some ⟨b', o', none⟩)] w fun e w' => e = .returned (.int .i64 (cmp x y)) ∧ ∃ q, w' = w.drewN q := by
  have H1 : Hid (∀ q, Calls Try.prog 130 #[.pointer (some ⟨b, o, none⟩), .pointer (some ⟨b', o', none⟩)] (w.drewN q) fun e w' => e = .returned (.int .i64 (cmp x.natAbs y.natAbs)) ∧ ∃ q', w' = (w.drewN q).drewN q') := Lib.hid fun q => cmpabs_any b o b' o' x y _ (h.below (below_drewN (Below.refl _ _) q)) (h'.below (below_drewN (Below.refl _ _) q)) hx hy
  have H2 : Hid (∀ q, Calls Try.prog 130 #[.pointer (some ⟨b', o', none⟩), .pointer (some ⟨b, o, none⟩)] (w.drewN q) fun e w' => e = .returned (.int .i64 (cmp y.natAbs x.natAbs)) ∧ ∃ q', w' = (w.drewN q).drewN q') := Lib.hid fun q => cmpabs_any b' o' b o y x _ (h'.below (below_drewN (Below.refl _ _) q)) (h.below (below_drewN (Below.refl _ _) q)) hy hx
  obtain ⟨neg, ds, h1, h2, h3, h4⟩ := h.ex
  obtain ⟨neg', ds', h1', h2', h3', h4'⟩ := h'.ex
  obtain ⟨A, c, c0, c1, hc, hr⟩ := h1.ex
  obtain ⟨A', c', c0', c1', hc', hr'⟩ := h1'.ex
  have d0 := dval_nonneg h1.dig
  have d0' := dval_nonneg h1'.dig
  have p0 := h2.pos h1.dig
  have p0' := h2'.pos h1'.dig
  have HC : Hid (cmp x y = if neg != neg' then (if neg then -1 else 1) else if neg then cmp y.natAbs x.natAbs else cmp x.natAbs y.natAbs) := Lib.hid (by
    cases neg <;> cases neg' <;> simp only [sg, if_true, Bool.false_eq_true, if_false, bne_self_eq_false, Bool.true_bne, Bool.false_bne, Bool.not_false] at h4 h4' ⊢
    · simp only [cmp]; repeat' split
      all_goals omega
    · have := p0'.2 (h3' rfl); simp only [cmp]; repeat' split
      all_goals omega
    · have := p0.2 (h3 rfl); simp only [cmp]; repeat' split
      all_goals omega
    · simp only [cmp]; repeat' split
      all_goals omega)
  clear h h' hx hy h1 h1' h2 h2' h3 h3' h4 h4' hr hr' d0 d0' p0 p0' hc hc'
  cases neg <;> cases neg'
  · go_enter Try.func105, Try.ntmps105
    go_wp2_with fail
    go_quiet (fail)
    go_wp2_with fail
    refine (H1.out _).mono ?_
    rintro e w1 ⟨rfl, q, rfl⟩
    go_wp2_with fail
    go_ret
    exact ⟨ret_int HC.out.symm, (by first | exact ⟨_, rfl⟩ | (simp only [World.drewN_drewN]; exact ⟨_, rfl⟩))⟩
  · go_enter Try.func105, Try.ntmps105
    go_wp2_with fail
    go_quiet (fail)
    go_wp2_with fail
    go_ret
    exact ⟨ret_int HC.out.symm, (by first | exact ⟨_, rfl⟩ | (simp only [World.drewN_drewN]; exact ⟨_, rfl⟩))⟩
  · go_enter Try.func105, Try.ntmps105
    go_wp2_with fail
    go_quiet (fail)
    go_wp2_with fail
    go_ret
    exact ⟨ret_int HC.out.symm, (by first | exact ⟨_, rfl⟩ | (simp only [World.drewN_drewN]; exact ⟨_, rfl⟩))⟩
  · go_enter Try.func105, Try.ntmps105
    go_wp2_with fail
    go_quiet (fail)
    go_wp2_with fail
    refine (H2.out _).mono ?_
    rintro e w1 ⟨rfl, q, rfl⟩
    go_wp2_with fail
    go_ret
    exact ⟨ret_int HC.out.symm, (by first | exact ⟨_, rfl⟩ | (simp only [World.drewN_drewN]; exact ⟨_, rfl⟩))⟩
end Go.Proofs.Ytpknjfeiiaopgaa.Big
