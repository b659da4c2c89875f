/- Walks of package curve (Wrong, Delay, Backlog, Chain) and its reference (KFits, KDelay): what each function returns. -/
import Derived.Test.YtadjbgdblfblbaaMem
import Derived.Outline
import Derived.BigQuiet
import Derived.Deep.QuietTactic
namespace Go.Proofs.Ytadjbgdblfblbaa
open Go.RowKit

/-- Is a number from 0 to 2^20? -/
def fit20 (n : Int) : Bool := decide (0 ≤ n) && decide (n ≤ 1048576)
theorem fit20_true {n : Int} (h : fit20 n = true) : 0 ≤ n ∧ n ≤ 1048576 := by simpa [fit20] using h
theorem fit20_false {n : Int} (h : fit20 n = false) : n < 0 ∨ 1048576 < n := by
  simp [fit20] at h
  omega

set_option maxHeartbeats 400000 in
theorem fits_any (n : Int) (w : World) : Calls Try.prog 82 #[.int .i64 n] w fun e w' => e = .returned (.bool (fit20 n)) ∧ w = w' := by
  go_enter Try.func82, Try.ntmps82
  go_wp2
  all_goals (go_ret; exact ⟨ret_bool (by simp [fit20, *]; try omega), rfl⟩)

def own4 (b r l s : Int) : Bool := fit20 b && fit20 r && fit20 l && fit20 s
def err2 (b : Bool) : Int := if b then 0 else 2

set_option maxHeartbeats 1000000 in
theorem cwrong_any (b r l s : Int) (w : World) : Calls Try.prog 31 #[.agg #[.int .i64 b, .int .i64 r], .agg #[.int .i64 l, .int .i64 s]] w fun e w' =>
    e = .returned (.int .i64 (err2 (own4 b r l s))) ∧ Below w.heap.size w w' := by
  have h1 := fun W => fits_any b W
  have h2 := fun W => fits_any r W
  have h3 := fun W => fits_any l W
  have h4 := fun W => fits_any s W
  have ho : err2 (own4 b r l s) = err2 (fit20 b && fit20 r && fit20 l && fit20 s) := rfl
  rw [ho]
  generalize fit20 b = b1 at h1 ⊢
  generalize fit20 r = b2 at h2 ⊢
  generalize fit20 l = b3 at h3 ⊢
  generalize fit20 s = b4 at h4 ⊢
  have H1 := Lib.hid h1
  have H2 := Lib.hid h2
  have H3 := Lib.hid h3
  have H4 := Lib.hid h4
  clear h1 h2 h3 h4 ho
  go_enter Try.func31, Try.ntmps31
  go_wp2_with fail
  refine (H1.out _).mono ?_
  rintro e w' ⟨rfl, rfl⟩
  cases b1
  · go_wp2_with fail
    go_ret
    exact ⟨rfl, (by repeat (first | exact Below.refl _ _ | assumption | refine Below.drew ?_ | refine below_drewN ?_ _ | refine Below.alloc ?_ (by first | omega | (simp; done) | (simp; omega)) _ | refine Below.setCell ?_ (by first | omega | (simp; done) | (simp; omega)) _ | refine Below.trans ?_ (Below.mono (by assumption) (by first | omega | (simp; done) | (simp; omega)))))⟩
  go_wp2_with fail
  refine (H2.out _).mono ?_
  rintro e w' ⟨rfl, rfl⟩
  cases b2
  · go_wp2_with fail
    go_ret
    exact ⟨rfl, (by repeat (first | exact Below.refl _ _ | assumption | refine Below.drew ?_ | refine below_drewN ?_ _ | refine Below.alloc ?_ (by first | omega | (simp; done) | (simp; omega)) _ | refine Below.setCell ?_ (by first | omega | (simp; done) | (simp; omega)) _ | refine Below.trans ?_ (Below.mono (by assumption) (by first | omega | (simp; done) | (simp; omega)))))⟩
  go_wp2_with fail
  refine (H3.out _).mono ?_
  rintro e w' ⟨rfl, rfl⟩
  cases b3
  · go_wp2_with fail
    go_ret
    exact ⟨rfl, (by repeat (first | exact Below.refl _ _ | assumption | refine Below.drew ?_ | refine below_drewN ?_ _ | refine Below.alloc ?_ (by first | omega | (simp; done) | (simp; omega)) _ | refine Below.setCell ?_ (by first | omega | (simp; done) | (simp; omega)) _ | refine Below.trans ?_ (Below.mono (by assumption) (by first | omega | (simp; done) | (simp; omega)))))⟩
  go_wp2_with fail
  refine (H4.out _).mono ?_
  rintro e w' ⟨rfl, rfl⟩
  cases b4
  · go_wp2_with fail
    go_ret
    exact ⟨rfl, (by repeat (first | exact Below.refl _ _ | assumption | refine Below.drew ?_ | refine below_drewN ?_ _ | refine Below.alloc ?_ (by first | omega | (simp; done) | (simp; omega)) _ | refine Below.setCell ?_ (by first | omega | (simp; done) | (simp; omega)) _ | refine Below.trans ?_ (Below.mono (by assumption) (by first | omega | (simp; done) | (simp; omega)))))⟩
  · go_wp2_with fail
    go_ret
    exact ⟨rfl, (by repeat (first | exact Below.refl _ _ | assumption | refine Below.drew ?_ | refine below_drewN ?_ _ | refine Below.alloc ?_ (by first | omega | (simp; done) | (simp; omega)) _ | refine Below.setCell ?_ (by first | omega | (simp; done) | (simp; omega)) _ | refine Below.trans ?_ (Below.mono (by assumption) (by first | omega | (simp; done) | (simp; omega)))))⟩

set_option maxHeartbeats 1000000 in
theorem delay_bad (b r l s : Int) (w : World) (h : own4 b r l s = false) : Calls Try.prog 27 #[.agg #[.int .i64 b, .int .i64 r], .agg #[.int .i64 l, .int .i64 s]] w fun e w' =>
    e = .returned (.tuple #[.int .i64 0, .int .i64 2]) ∧ Below w.heap.size w w' := by
  have h1 := fun W => cwrong_any b r l s W
  rw [h] at h1
  have H1 := Lib.hid h1
  clear h1 h
  go_enter Try.func27, Try.ntmps27
  go_wp2_with fail
  refine (H1.out _).mono ?_
  rintro e w1 ⟨rfl, hb⟩
  simp only [err2]
  go_wp2_with fail
  go_ret2
  exact ⟨rfl, (by repeat (first | exact Below.refl _ _ | assumption | refine Below.drew ?_ | refine below_drewN ?_ _ | refine Below.alloc ?_ (by first | omega | (simp; done) | (simp; omega)) _ | refine Below.setCell ?_ (by first | omega | (simp; done) | (simp; omega)) _ | refine Below.trans ?_ (Below.mono (by assumption) (by first | omega | (simp; done) | (simp; omega)))))⟩

set_option maxHeartbeats 1000000 in
theorem delay_ok (b r l s : Int) (w : World) (h : own4 b r l s = true) (hn : b + r ≠ 0) (hr : r ≤ s) (hs : s ≠ 0) : Calls Try.prog 27 #[.agg #[.int .i64 b, .int .i64 r], .agg #[.int .i64 l, .int .i64 s]] w fun e w' =>
    e = .returned (.tuple #[.int .i64 (l + (b + r + s - 1) / s - 1), .int .i64 0]) ∧ Below w.heap.size w w' := by
  have h1 := fun W => cwrong_any b r l s W
  rw [h] at h1
  have H1 := Lib.hid h1
  clear h1
  simp only [own4, Bool.and_eq_true] at h
  obtain ⟨⟨⟨hb, hr'⟩, hl⟩, hs'⟩ := h
  obtain ⟨hb0, hb1⟩ := fit20_true hb
  obtain ⟨hr0, hr1⟩ := fit20_true hr'
  obtain ⟨hl0, hl1⟩ := fit20_true hl
  obtain ⟨hs0, hs1⟩ := fit20_true hs'
  clear hb hr' hl hs'
  have e1 : (b + r == 0) = false := by simpa using hn
  have e2 : (s == 0) = false := by simpa using hs
  have hs2 : 1 ≤ s := by omega
  have hdiv0 : 0 ≤ (b + r + s - 1) / s := Int.ediv_nonneg (by omega) (by omega)
  have hdiv1 : (b + r + s - 1) / s ≤ 4194304 := by
    have := Int.ediv_le_self (a := b + r + s - 1) s (by omega)
    omega
  clear hn hs
  go_enter Try.func27, Try.ntmps27
  go_wp2_with fail
  refine (H1.out _).mono ?_
  rintro e w1 ⟨rfl, hb⟩
  simp only [err2]
  obtain ⟨hc, hf, hz⟩ := bfacts hb
  go_wp2_with fail
  go_quiet (fail)
  go_wp2_with fail
  go_ret2
  exact ⟨rfl, (by repeat (first | exact Below.refl _ _ | assumption | refine Below.drew ?_ | refine below_drewN ?_ _ | refine Below.alloc ?_ (by first | omega | (simp; done) | (simp; omega)) _ | refine Below.setCell ?_ (by first | omega | (simp; done) | (simp; omega)) _ | refine Below.trans ?_ (Below.mono (by assumption) (by first | omega | (simp; done) | (simp; omega)))))⟩

set_option maxHeartbeats 1000000 in
theorem delay_zero (b r l s : Int) (w : World) (h : own4 b r l s = true) (hn : b + r = 0) : Calls Try.prog 27 #[.agg #[.int .i64 b, .int .i64 r], .agg #[.int .i64 l, .int .i64 s]] w fun e w' =>
    e = .returned (.tuple #[.int .i64 0, .int .i64 0]) ∧ Below w.heap.size w w' := by
  have h1 := fun W => cwrong_any b r l s W
  rw [h] at h1
  have H1 := Lib.hid h1
  clear h1
  simp only [own4, Bool.and_eq_true] at h
  obtain ⟨⟨⟨hb, hr'⟩, hl⟩, hs'⟩ := h
  obtain ⟨hb0, hb1⟩ := fit20_true hb
  obtain ⟨hr0, hr1⟩ := fit20_true hr'
  clear hb hr' hl hs'
  obtain rfl : b = 0 := by omega
  obtain rfl : r = 0 := by omega
  clear hn hb0 hb1 hr0 hr1
  go_enter Try.func27, Try.ntmps27
  go_wp2_with fail
  refine (H1.out _).mono ?_
  rintro e w1 ⟨rfl, hb⟩
  simp only [err2]
  obtain ⟨hc, hf, hz⟩ := bfacts hb
  go_wp2_with fail
  go_ret2
  exact ⟨rfl, (by repeat (first | exact Below.refl _ _ | assumption | refine Below.drew ?_ | refine below_drewN ?_ _ | refine Below.alloc ?_ (by first | omega | (simp; done) | (simp; omega)) _ | refine Below.setCell ?_ (by first | omega | (simp; done) | (simp; omega)) _ | refine Below.trans ?_ (Below.mono (by assumption) (by first | omega | (simp; done) | (simp; omega)))))⟩

set_option maxHeartbeats 1000000 in
theorem delay_none (b r l s : Int) (w : World) (h : own4 b r l s = true) (hn : b + r ≠ 0) (hrs : s < r ∨ s = 0) : Calls Try.prog 27 #[.agg #[.int .i64 b, .int .i64 r], .agg #[.int .i64 l, .int .i64 s]] w fun e w' =>
    e = .returned (.tuple #[.int .i64 0, .int .i64 3]) ∧ Below w.heap.size w w' := by
  have h1 := fun W => cwrong_any b r l s W
  rw [h] at h1
  have H1 := Lib.hid h1
  clear h1
  simp only [own4, Bool.and_eq_true] at h
  obtain ⟨⟨⟨hb, hr'⟩, hl⟩, hs'⟩ := h
  obtain ⟨hb0, hb1⟩ := fit20_true hb
  obtain ⟨hr0, hr1⟩ := fit20_true hr'
  have e1 : (b + r == 0) = false := by simpa using hn
  clear hb hr' hl hs' hn
  by_cases hlt : s < r
  · clear hrs
    go_enter Try.func27, Try.ntmps27
    go_wp2_with fail
    refine (H1.out _).mono ?_
    rintro e w1 ⟨rfl, hb⟩
    simp only [err2]
    obtain ⟨hc, hf, hz⟩ := bfacts hb
    go_wp2_with fail
    go_ret2
    exact ⟨rfl, (by repeat (first | exact Below.refl _ _ | assumption | refine Below.drew ?_ | refine below_drewN ?_ _ | refine Below.alloc ?_ (by first | omega | (simp; done) | (simp; omega)) _ | refine Below.setCell ?_ (by first | omega | (simp; done) | (simp; omega)) _ | refine Below.trans ?_ (Below.mono (by assumption) (by first | omega | (simp; done) | (simp; omega)))))⟩
  · obtain rfl : s = 0 := by omega
    clear hrs
    go_enter Try.func27, Try.ntmps27
    go_wp2_with fail
    refine (H1.out _).mono ?_
    rintro e w1 ⟨rfl, hb⟩
    simp only [err2]
    obtain ⟨hc, hf, hz⟩ := bfacts hb
    go_wp2_with fail
    go_ret2
    exact ⟨rfl, (by repeat (first | exact Below.refl _ _ | assumption | refine Below.drew ?_ | refine below_drewN ?_ _ | refine Below.alloc ?_ (by first | omega | (simp; done) | (simp; omega)) _ | refine Below.setCell ?_ (by first | omega | (simp; done) | (simp; omega)) _ | refine Below.trans ?_ (Below.mono (by assumption) (by first | omega | (simp; done) | (simp; omega)))))⟩

/-- Backlog where Delay has an error. -/
theorem backlog_err (b r l s err : Int) (w : World) (he : (err == 0) = false) (h : ∀ W, Calls Try.prog 27 #[.agg #[.int .i64 b, .int .i64 r], .agg #[.int .i64 l, .int .i64 s]] W fun e w' =>
    e = .returned (.tuple #[.int .i64 0, .int .i64 err]) ∧ Below W.heap.size W w') : Calls Try.prog 28 #[.agg #[.int .i64 b, .int .i64 r], .agg #[.int .i64 l, .int .i64 s]] w fun e w' =>
    e = .returned (.tuple #[.int .i64 0, .int .i64 err]) ∧ Below w.heap.size w w' := by
  have H1 := Lib.hid h
  clear h
  have he' : (err != 0) = true := by simpa using he
  go_enter Try.func28, Try.ntmps28
  go_wp2_with fail
  refine (H1.out _).mono ?_
  rintro e w1 ⟨rfl, hb⟩
  obtain ⟨hc, hf, hz⟩ := bfacts hb
  go_wp2_with fail
  go_ret2
  exact ⟨rfl, (by repeat (first | exact Below.refl _ _ | assumption | refine Below.drew ?_ | refine below_drewN ?_ _ | refine Below.alloc ?_ (by first | omega | (simp; done) | (simp; omega)) _ | refine Below.setCell ?_ (by first | omega | (simp; done) | (simp; omega)) _ | refine Below.trans ?_ (Below.mono (by assumption) (by first | omega | (simp; done) | (simp; omega)))))⟩

set_option maxHeartbeats 1000000 in
theorem backlog_ok (b r l s d : Int) (w : World) (ho : own4 b r l s = true) (h : ∀ W, Calls Try.prog 27 #[.agg #[.int .i64 b, .int .i64 r], .agg #[.int .i64 l, .int .i64 s]] W fun e w' =>
    e = .returned (.tuple #[.int .i64 d, .int .i64 0]) ∧ Below W.heap.size W w') : Calls Try.prog 28 #[.agg #[.int .i64 b, .int .i64 r], .agg #[.int .i64 l, .int .i64 s]] w fun e w' =>
    e = .returned (.tuple #[.int .i64 (b + r * l), .int .i64 0]) ∧ Below w.heap.size w w' := by
  have H1 := Lib.hid h
  clear h
  simp only [own4, Bool.and_eq_true] at ho
  obtain ⟨⟨⟨hb, hr'⟩, hl⟩, hs'⟩ := ho
  obtain ⟨hb0, hb1⟩ := fit20_true hb
  obtain ⟨hr0, hr1⟩ := fit20_true hr'
  obtain ⟨hl0, hl1⟩ := fit20_true hl
  clear hb hr' hl hs'
  have hm0 : 0 ≤ r * l := Int.mul_nonneg hr0 hl0
  have hm1 : r * l ≤ 1048576 * 1048576 := Int.mul_le_mul hr1 hl1 hl0 (by omega)
  go_enter Try.func28, Try.ntmps28
  go_wp2_with fail
  refine (H1.out _).mono ?_
  rintro e w1 ⟨rfl, hb⟩
  obtain ⟨hc, hf, hz⟩ := bfacts hb
  go_wp2_with fail
  go_ret2
  exact ⟨rfl, (by repeat (first | exact Below.refl _ _ | assumption | refine Below.drew ?_ | refine below_drewN ?_ _ | refine Below.alloc ?_ (by first | omega | (simp; done) | (simp; omega)) _ | refine Below.setCell ?_ (by first | omega | (simp; done) | (simp; omega)) _ | refine Below.trans ?_ (Below.mono (by assumption) (by first | omega | (simp; done) | (simp; omega)))))⟩

def minI (a b : Int) : Int := if b < a then b else a

set_option maxHeartbeats 1000000 in
theorem chain_bad (l s l' s' : Int) (w : World) (h : (fit20 l && fit20 s && fit20 l' && fit20 s') = false) : Calls Try.prog 29 #[.agg #[.int .i64 l, .int .i64 s], .agg #[.int .i64 l', .int .i64 s']] w fun e w' =>
    e = .returned (.tuple #[.agg #[.int .i64 0, .int .i64 0], .int .i64 2]) ∧ Below w.heap.size w w' := by
  have h1 := fun W => cwrong_any 0 0 l s W
  have h2 := fun W => cwrong_any 0 0 l' s' W
  have e1 : own4 0 0 l s = (fit20 l && fit20 s) := by simp [own4, fit20]
  have e2 : own4 0 0 l' s' = (fit20 l' && fit20 s') := by simp [own4, fit20]
  rw [e1] at h1
  rw [e2] at h2
  have h' : ((fit20 l && fit20 s) && (fit20 l' && fit20 s')) = false := by rw [← h]; simp [Bool.and_assoc]
  clear h e1 e2
  generalize (fit20 l && fit20 s) = b1 at h1 h'
  generalize (fit20 l' && fit20 s') = b2 at h2 h'
  have H1 := Lib.hid h1
  have H2 := Lib.hid h2
  clear h1 h2
  cases b1
  · clear h'
    go_enter Try.func29, Try.ntmps29
    go_wp2_with fail
    refine (H1.out _).mono ?_
    rintro e w1 ⟨rfl, hb⟩
    simp only [err2]
    obtain ⟨hc, hf, hz⟩ := bfacts hb
    go_wp2_with fail
    (refine bodyPost_ret (v := .tuple #[.agg #[.int .i64 0, .int .i64 0], .int .i64 2]) (by simp [results, Try.results29, go_sem, *]) rfl ?_; exact ⟨rfl, (by repeat (first | exact Below.refl _ _ | assumption | refine Below.drew ?_ | refine below_drewN ?_ _ | refine Below.alloc ?_ (by first | omega | (simp; done) | (simp; omega)) _ | refine Below.setCell ?_ (by first | omega | (simp; done) | (simp; omega)) _ | refine Below.trans ?_ (Below.mono (by assumption) (by first | omega | (simp; done) | (simp; omega)))))⟩)
  · simp only [Bool.true_and] at h'
    subst h'
    go_enter Try.func29, Try.ntmps29
    go_wp2_with fail
    refine (H1.out _).mono ?_
    rintro e w1 ⟨rfl, hb⟩
    simp only [err2]
    obtain ⟨hc, hf, hz⟩ := bfacts hb
    go_wp2_with fail
    have c1_0 := fun o => Below.cell hb (p := ⟨w.heap.size, o, none⟩) (by first | omega | (simp; done) | (simp; omega))
    have l1_0 : w.heap.size < w1.heap.size := Nat.lt_of_lt_of_le (by first | omega | (simp; done) | (simp; omega)) (Below.size hb)
    have c1_1 := fun o => Below.cell hb (p := ⟨w.heap.size + 1, o, none⟩) (by first | omega | (simp; done) | (simp; omega))
    have l1_1 : w.heap.size + 1 < w1.heap.size := Nat.lt_of_lt_of_le (by first | omega | (simp; done) | (simp; omega)) (Below.size hb)
    have c1_2 := fun o => Below.cell hb (p := ⟨w.heap.size + 1 + 1, o, none⟩) (by first | omega | (simp; done) | (simp; omega))
    have f1_2 := fun o => Below.frozen hb (p := ⟨w.heap.size + 1 + 1, o, none⟩) (by first | omega | (simp; done) | (simp; omega))
    have l1_2 : w.heap.size + 1 + 1 < w1.heap.size := Nat.lt_of_lt_of_le (by first | omega | (simp; done) | (simp; omega)) (Below.size hb)
    refine (H2.out _).mono ?_
    rintro e w2 ⟨rfl, hb2⟩
    simp only [err2]
    have c2_0 := fun o => Below.cell hb2 (p := ⟨w.heap.size, o, none⟩) (by first | omega | (simp; done) | (simp; omega))
    have l2_0 : w.heap.size < w2.heap.size := Nat.lt_of_lt_of_le (by first | omega | (simp; done) | (simp; omega)) (Below.size hb2)
    have c2_1 := fun o => Below.cell hb2 (p := ⟨w.heap.size + 1, o, none⟩) (by first | omega | (simp; done) | (simp; omega))
    have l2_1 : w.heap.size + 1 < w2.heap.size := Nat.lt_of_lt_of_le (by first | omega | (simp; done) | (simp; omega)) (Below.size hb2)
    have c2_2 := fun o => Below.cell hb2 (p := ⟨w.heap.size + 1 + 1, o, none⟩) (by first | omega | (simp; done) | (simp; omega))
    have f2_2 := fun o => Below.frozen hb2 (p := ⟨w.heap.size + 1 + 1, o, none⟩) (by first | omega | (simp; done) | (simp; omega))
    have l2_2 : w.heap.size + 1 + 1 < w2.heap.size := Nat.lt_of_lt_of_le (by first | omega | (simp; done) | (simp; omega)) (Below.size hb2)
    go_wp2_with fail
    (refine bodyPost_ret (v := .tuple #[.agg #[.int .i64 0, .int .i64 0], .int .i64 2]) (by simp [results, Try.results29, go_sem, *]) rfl ?_; exact ⟨rfl, (by repeat (first | exact Below.refl _ _ | assumption | refine Below.drew ?_ | refine below_drewN ?_ _ | refine Below.alloc ?_ (by first | omega | (simp; done) | (simp; omega)) _ | refine Below.setCell ?_ (by first | omega | (simp; done) | (simp; omega)) _ | refine Below.trans ?_ (Below.mono (by assumption) (by first | omega | (simp; done) | (simp; omega)))))⟩)

set_option maxHeartbeats 1000000 in
theorem chain_full (l s l' s' : Int) (w : World) (h : (fit20 l && fit20 s && fit20 l' && fit20 s') = true) (hl : 1048576 < l + l') : Calls Try.prog 29 #[.agg #[.int .i64 l, .int .i64 s], .agg #[.int .i64 l', .int .i64 s']] w fun e w' =>
    e = .returned (.tuple #[.agg #[.int .i64 0, .int .i64 0], .int .i64 4]) ∧ Below w.heap.size w w' := by
  have h1 := fun W => cwrong_any 0 0 l s W
  have h2 := fun W => cwrong_any 0 0 l' s' W
  simp only [Bool.and_eq_true] at h
  obtain ⟨⟨⟨h3, h4⟩, h5⟩, h6⟩ := h
  rw [show own4 0 0 l s = true from by simp [own4, h3, h4]; simp [fit20]] at h1
  rw [show own4 0 0 l' s' = true from by simp [own4, h5, h6]; simp [fit20]] at h2
  have H1 := Lib.hid h1
  have H2 := Lib.hid h2
  clear h1 h2
  obtain ⟨l0, l1⟩ := fit20_true h3
  obtain ⟨l2, l3⟩ := fit20_true h5
  obtain ⟨s0, s1⟩ := fit20_true h4
  obtain ⟨s2, s3⟩ := fit20_true h6
  clear h3 h4 h5 h6
  go_enter Try.func29, Try.ntmps29
  go_wp2_with fail
  refine (H1.out _).mono ?_
  rintro e w1 ⟨rfl, hb⟩
  simp only [err2]
  have c1_0 := fun o => Below.cell hb (p := ⟨w.heap.size, o, none⟩) (by first | omega | (simp; done) | (simp; omega))
  have l1_0 : w.heap.size < w1.heap.size := Nat.lt_of_lt_of_le (by first | omega | (simp; done) | (simp; omega)) (Below.size hb)
  have c1_1 := fun o => Below.cell hb (p := ⟨w.heap.size + 1, o, none⟩) (by first | omega | (simp; done) | (simp; omega))
  have l1_1 : w.heap.size + 1 < w1.heap.size := Nat.lt_of_lt_of_le (by first | omega | (simp; done) | (simp; omega)) (Below.size hb)
  have c1_2 := fun o => Below.cell hb (p := ⟨w.heap.size + 1 + 1, o, none⟩) (by first | omega | (simp; done) | (simp; omega))
  have f1_2 := fun o => Below.frozen hb (p := ⟨w.heap.size + 1 + 1, o, none⟩) (by first | omega | (simp; done) | (simp; omega))
  have l1_2 : w.heap.size + 1 + 1 < w1.heap.size := Nat.lt_of_lt_of_le (by first | omega | (simp; done) | (simp; omega)) (Below.size hb)
  go_wp2_with fail
  refine (H2.out _).mono ?_
  rintro e w2 ⟨rfl, hb2⟩
  simp only [err2]
  have c2_0 := fun o => Below.cell hb2 (p := ⟨w.heap.size, o, none⟩) (by first | omega | (simp; done) | (simp; omega))
  have l2_0 : w.heap.size < w2.heap.size := Nat.lt_of_lt_of_le (by first | omega | (simp; done) | (simp; omega)) (Below.size hb2)
  have c2_1 := fun o => Below.cell hb2 (p := ⟨w.heap.size + 1, o, none⟩) (by first | omega | (simp; done) | (simp; omega))
  have l2_1 : w.heap.size + 1 < w2.heap.size := Nat.lt_of_lt_of_le (by first | omega | (simp; done) | (simp; omega)) (Below.size hb2)
  have c2_2 := fun o => Below.cell hb2 (p := ⟨w.heap.size + 1 + 1, o, none⟩) (by first | omega | (simp; done) | (simp; omega))
  have f2_2 := fun o => Below.frozen hb2 (p := ⟨w.heap.size + 1 + 1, o, none⟩) (by first | omega | (simp; done) | (simp; omega))
  have l2_2 : w.heap.size + 1 + 1 < w2.heap.size := Nat.lt_of_lt_of_le (by first | omega | (simp; done) | (simp; omega)) (Below.size hb2)
  go_wp2_with fail
  all_goals (refine bodyPost_ret (v := .tuple #[.agg #[.int .i64 0, .int .i64 0], .int .i64 4]) (by simp [results, Try.results29, go_sem, *]) rfl ?_; exact ⟨rfl, (by repeat (first | exact Below.refl _ _ | assumption | refine Below.drew ?_ | refine below_drewN ?_ _ | refine Below.alloc ?_ (by first | omega | (simp; done) | (simp; omega)) _ | refine Below.setCell ?_ (by first | omega | (simp; done) | (simp; omega)) _ | refine Below.trans ?_ (Below.mono (by assumption) (by first | omega | (simp; done) | (simp; omega)))))⟩)

set_option maxHeartbeats 1000000 in
theorem chain_ok (l s l' s' : Int) (w : World) (h : (fit20 l && fit20 s && fit20 l' && fit20 s') = true) (hl : l + l' ≤ 1048576) : Calls Try.prog 29 #[.agg #[.int .i64 l, .int .i64 s], .agg #[.int .i64 l', .int .i64 s']] w fun e w' =>
    e = .returned (.tuple #[.agg #[.int .i64 (l + l'), .int .i64 (min s s')], .int .i64 0]) ∧ Below w.heap.size w w' := by
  have h1 := fun W => cwrong_any 0 0 l s W
  have h2 := fun W => cwrong_any 0 0 l' s' W
  simp only [Bool.and_eq_true] at h
  obtain ⟨⟨⟨h3, h4⟩, h5⟩, h6⟩ := h
  rw [show own4 0 0 l s = true from by simp [own4, h3, h4]; simp [fit20]] at h1
  rw [show own4 0 0 l' s' = true from by simp [own4, h5, h6]; simp [fit20]] at h2
  have H1 := Lib.hid h1
  have H2 := Lib.hid h2
  clear h1 h2
  obtain ⟨l0, l1⟩ := fit20_true h3
  obtain ⟨l2, l3⟩ := fit20_true h5
  obtain ⟨s0, s1⟩ := fit20_true h4
  obtain ⟨s2, s3⟩ := fit20_true h6
  clear h3 h4 h5 h6
  by_cases hlt : s' < s
  · have Hm : Hid (min s s' = s') := Lib.hid (Int.min_eq_right (by omega))
    go_enter Try.func29, Try.ntmps29
    go_wp2_with fail
    refine (H1.out _).mono ?_
    rintro e w1 ⟨rfl, hb⟩
    simp only [err2]
    have c1_0 := fun o => Below.cell hb (p := ⟨w.heap.size, o, none⟩) (by first | omega | (simp; done) | (simp; omega))
    have l1_0 : w.heap.size < w1.heap.size := Nat.lt_of_lt_of_le (by first | omega | (simp; done) | (simp; omega)) (Below.size hb)
    have c1_1 := fun o => Below.cell hb (p := ⟨w.heap.size + 1, o, none⟩) (by first | omega | (simp; done) | (simp; omega))
    have l1_1 : w.heap.size + 1 < w1.heap.size := Nat.lt_of_lt_of_le (by first | omega | (simp; done) | (simp; omega)) (Below.size hb)
    have c1_2 := fun o => Below.cell hb (p := ⟨w.heap.size + 1 + 1, o, none⟩) (by first | omega | (simp; done) | (simp; omega))
    have f1_2 := fun o => Below.frozen hb (p := ⟨w.heap.size + 1 + 1, o, none⟩) (by first | omega | (simp; done) | (simp; omega))
    have l1_2 : w.heap.size + 1 + 1 < w1.heap.size := Nat.lt_of_lt_of_le (by first | omega | (simp; done) | (simp; omega)) (Below.size hb)
    go_wp2_with fail
    refine (H2.out _).mono ?_
    rintro e w2 ⟨rfl, hb2⟩
    simp only [err2]
    have c2_0 := fun o => Below.cell hb2 (p := ⟨w.heap.size, o, none⟩) (by first | omega | (simp; done) | (simp; omega))
    have l2_0 : w.heap.size < w2.heap.size := Nat.lt_of_lt_of_le (by first | omega | (simp; done) | (simp; omega)) (Below.size hb2)
    have c2_1 := fun o => Below.cell hb2 (p := ⟨w.heap.size + 1, o, none⟩) (by first | omega | (simp; done) | (simp; omega))
    have l2_1 : w.heap.size + 1 < w2.heap.size := Nat.lt_of_lt_of_le (by first | omega | (simp; done) | (simp; omega)) (Below.size hb2)
    have c2_2 := fun o => Below.cell hb2 (p := ⟨w.heap.size + 1 + 1, o, none⟩) (by first | omega | (simp; done) | (simp; omega))
    have f2_2 := fun o => Below.frozen hb2 (p := ⟨w.heap.size + 1 + 1, o, none⟩) (by first | omega | (simp; done) | (simp; omega))
    have l2_2 : w.heap.size + 1 + 1 < w2.heap.size := Nat.lt_of_lt_of_le (by first | omega | (simp; done) | (simp; omega)) (Below.size hb2)
    go_wp2_with fail
    refine bodyPost_ret (v := .tuple #[.agg #[.int .i64 (l + l'), .int .i64 s'], .int .i64 0]) (by simp [results, Try.results29, go_sem, *]) rfl ?_
    exact ⟨by rw [Hm.out], (by repeat (first | exact Below.refl _ _ | assumption | refine Below.drew ?_ | refine below_drewN ?_ _ | refine Below.alloc ?_ (by first | omega | (simp; done) | (simp; omega)) _ | refine Below.setCell ?_ (by first | omega | (simp; done) | (simp; omega)) _ | refine Below.trans ?_ (Below.mono (by assumption) (by first | omega | (simp; done) | (simp; omega)))))⟩
  · have Hm : Hid (min s s' = s) := Lib.hid (Int.min_eq_left (by omega))
    go_enter Try.func29, Try.ntmps29
    go_wp2_with fail
    refine (H1.out _).mono ?_
    rintro e w1 ⟨rfl, hb⟩
    simp only [err2]
    have c1_0 := fun o => Below.cell hb (p := ⟨w.heap.size, o, none⟩) (by first | omega | (simp; done) | (simp; omega))
    have l1_0 : w.heap.size < w1.heap.size := Nat.lt_of_lt_of_le (by first | omega | (simp; done) | (simp; omega)) (Below.size hb)
    have c1_1 := fun o => Below.cell hb (p := ⟨w.heap.size + 1, o, none⟩) (by first | omega | (simp; done) | (simp; omega))
    have l1_1 : w.heap.size + 1 < w1.heap.size := Nat.lt_of_lt_of_le (by first | omega | (simp; done) | (simp; omega)) (Below.size hb)
    have c1_2 := fun o => Below.cell hb (p := ⟨w.heap.size + 1 + 1, o, none⟩) (by first | omega | (simp; done) | (simp; omega))
    have f1_2 := fun o => Below.frozen hb (p := ⟨w.heap.size + 1 + 1, o, none⟩) (by first | omega | (simp; done) | (simp; omega))
    have l1_2 : w.heap.size + 1 + 1 < w1.heap.size := Nat.lt_of_lt_of_le (by first | omega | (simp; done) | (simp; omega)) (Below.size hb)
    go_wp2_with fail
    refine (H2.out _).mono ?_
    rintro e w2 ⟨rfl, hb2⟩
    simp only [err2]
    have c2_0 := fun o => Below.cell hb2 (p := ⟨w.heap.size, o, none⟩) (by first | omega | (simp; done) | (simp; omega))
    have l2_0 : w.heap.size < w2.heap.size := Nat.lt_of_lt_of_le (by first | omega | (simp; done) | (simp; omega)) (Below.size hb2)
    have c2_1 := fun o => Below.cell hb2 (p := ⟨w.heap.size + 1, o, none⟩) (by first | omega | (simp; done) | (simp; omega))
    have l2_1 : w.heap.size + 1 < w2.heap.size := Nat.lt_of_lt_of_le (by first | omega | (simp; done) | (simp; omega)) (Below.size hb2)
    have c2_2 := fun o => Below.cell hb2 (p := ⟨w.heap.size + 1 + 1, o, none⟩) (by first | omega | (simp; done) | (simp; omega))
    have f2_2 := fun o => Below.frozen hb2 (p := ⟨w.heap.size + 1 + 1, o, none⟩) (by first | omega | (simp; done) | (simp; omega))
    have l2_2 : w.heap.size + 1 + 1 < w2.heap.size := Nat.lt_of_lt_of_le (by first | omega | (simp; done) | (simp; omega)) (Below.size hb2)
    go_wp2_with fail
    refine bodyPost_ret (v := .tuple #[.agg #[.int .i64 (l + l'), .int .i64 s], .int .i64 0]) (by simp [results, Try.results29, go_sem, *]) rfl ?_
    exact ⟨by rw [Hm.out], (by repeat (first | exact Below.refl _ _ | assumption | refine Below.drew ?_ | refine below_drewN ?_ _ | refine Below.alloc ?_ (by first | omega | (simp; done) | (simp; omega)) _ | refine Below.setCell ?_ (by first | omega | (simp; done) | (simp; omega)) _ | refine Below.trans ?_ (Below.mono (by assumption) (by first | omega | (simp; done) | (simp; omega)))))⟩
end Go.Proofs.Ytadjbgdblfblbaa
