/- The walk of the law CurveBounds. -/
import Derived.Test.YtadjbgdblfblbaaCurveR
import Derived.Outline
namespace Go.Proofs.Ytadjbgdblfblbaa.CurveBounds
open Go.RowKit

theorem rd4 {k : IntKind} {W : World} {B : Nat} {a b c d : Int} (h0 : W.cell? ⟨B, 0, none⟩ = some (.int k a)) (h1 : W.cell? ⟨B, 1, none⟩ = some (.int k b)) (h2 : W.cell? ⟨B, 2, none⟩ = some (.int k c)) (h3 : W.cell? ⟨B, 3, none⟩ = some (.int k d)) :
    RdI k W (some ⟨B, 0, none⟩) [a, b, c, d] := by
  refine .inr ⟨B, 0, rfl, fun j u hu => ?_⟩
  match j with
  | 0 => simp at hu; subst hu; exact h0
  | 1 => simp at hu; subst hu; exact h1
  | 2 => simp at hu; subst hu; exact h2
  | 3 => simp at hu; subst hu; exact h3
  | j + 4 => simp at hu

theorem all4 (a b c d : Int) : [a, b, c, d].all fit20 = (fit20 a && fit20 b && fit20 c && fit20 d) := by simp [Bool.and_assoc]


set_option maxRecDepth 100000 in
set_option maxHeartbeats 2000000 in
theorem core_bad_bad (b r l s l' s' : Int) (o1 o2 : Bool) (d e k f kd : Int) (hd : d = 0) (he : e = 2) (hk : k = 0) (hf : f = 2) (ho1 : o1 = false) (ul us g : Int) (hul : ul = 0) (hus : us = 0) (hg : g = 2) (ho2 : o2 = false) (w : World)
    (Hd : Hid (∀ W, Calls Try.prog 27 #[.agg #[.int .i64 b, .int .i64 r], .agg #[.int .i64 l, .int .i64 s]] W fun x w' => x = .returned (.tuple #[.int .i64 d, .int .i64 e]) ∧ Below W.heap.size W w'))
    (Hb : Hid (∀ W, Calls Try.prog 28 #[.agg #[.int .i64 b, .int .i64 r], .agg #[.int .i64 l, .int .i64 s]] W fun x w' => x = .returned (.tuple #[.int .i64 k, .int .i64 f]) ∧ Below W.heap.size W w'))
    (Hc : Hid (∀ W, Calls Try.prog 29 #[.agg #[.int .i64 l, .int .i64 s], .agg #[.int .i64 l', .int .i64 s']] W fun x w' => x = .returned (.tuple #[.agg #[.int .i64 ul, .int .i64 us], .int .i64 g]) ∧ Below W.heap.size W w'))
    (Hw : Hid (∀ W, Calls Try.prog 31 #[.agg #[.int .i64 b, .int .i64 r], .agg #[.int .i64 l, .int .i64 s]] W fun x w' => x = .returned (.int .i64 (err2 o1)) ∧ Below W.heap.size W w'))
    (H1 : Hid ([b, r, l, s].all fit20 = o1)) (H2 : Hid ([l, s, l', s'].all fit20 = o2)) :
    Calls Try.prog 6 #[.agg #[.int .i64 b, .int .i64 r], .agg #[.int .i64 l, .int .i64 s], .agg #[.int .i64 l', .int .i64 s']] w fun x w' => x = .returned (.bool true) ∧ Below w.heap.size w w' := by
  subst d e k f o1 ul us g o2
  go_enter Try.func6, Try.ntmps6
  go_wp2_with fail
  refine (Hd.out _).mono ?_
  rintro x w1 ⟨rfl, hb1⟩
  have c1_0 := fun o => Below.cell hb1 (p := ⟨w.heap.size, o, none⟩) (by first | omega | (simp; done) | (simp; omega))
  have l1_0 : w.heap.size < w1.heap.size := Nat.lt_of_lt_of_le (by first | omega | (simp; done) | (simp; omega)) (Below.size hb1)
  have c1_1 := fun o => Below.cell hb1 (p := ⟨w.heap.size + 1, o, none⟩) (by first | omega | (simp; done) | (simp; omega))
  have l1_1 : w.heap.size + 1 < w1.heap.size := Nat.lt_of_lt_of_le (by first | omega | (simp; done) | (simp; omega)) (Below.size hb1)
  have c1_2 := fun o => Below.cell hb1 (p := ⟨w.heap.size + 1 + 1, o, none⟩) (by first | omega | (simp; done) | (simp; omega))
  have l1_2 : w.heap.size + 1 + 1 < w1.heap.size := Nat.lt_of_lt_of_le (by first | omega | (simp; done) | (simp; omega)) (Below.size hb1)
  go_wp2_with fail
  refine (Hb.out _).mono ?_
  rintro x w2 ⟨rfl, hb2⟩
  have c2_0 := fun o => Below.cell hb2 (p := ⟨w.heap.size, o, none⟩) (by first | omega | (simp; done) | (simp; omega))
  have l2_0 : w.heap.size < w2.heap.size := Nat.lt_of_lt_of_le (by first | omega | (simp; done) | (simp; omega)) (Below.size hb2)
  have c2_1 := fun o => Below.cell hb2 (p := ⟨w.heap.size + 1, o, none⟩) (by first | omega | (simp; done) | (simp; omega))
  have l2_1 : w.heap.size + 1 < w2.heap.size := Nat.lt_of_lt_of_le (by first | omega | (simp; done) | (simp; omega)) (Below.size hb2)
  have c2_2 := fun o => Below.cell hb2 (p := ⟨w.heap.size + 1 + 1, o, none⟩) (by first | omega | (simp; done) | (simp; omega))
  have l2_2 : w.heap.size + 1 + 1 < w2.heap.size := Nat.lt_of_lt_of_le (by first | omega | (simp; done) | (simp; omega)) (Below.size hb2)
  go_wp2_with fail
  refine (Hc.out _).mono ?_
  rintro x w3 ⟨rfl, hb3⟩
  have c3_0 := fun o => Below.cell hb3 (p := ⟨w.heap.size, o, none⟩) (by first | omega | (simp; done) | (simp; omega))
  have l3_0 : w.heap.size < w3.heap.size := Nat.lt_of_lt_of_le (by first | omega | (simp; done) | (simp; omega)) (Below.size hb3)
  have c3_1 := fun o => Below.cell hb3 (p := ⟨w.heap.size + 1, o, none⟩) (by first | omega | (simp; done) | (simp; omega))
  have l3_1 : w.heap.size + 1 < w3.heap.size := Nat.lt_of_lt_of_le (by first | omega | (simp; done) | (simp; omega)) (Below.size hb3)
  have c3_2 := fun o => Below.cell hb3 (p := ⟨w.heap.size + 1 + 1, o, none⟩) (by first | omega | (simp; done) | (simp; omega))
  have l3_2 : w.heap.size + 1 + 1 < w3.heap.size := Nat.lt_of_lt_of_le (by first | omega | (simp; done) | (simp; omega)) (Below.size hb3)
  go_wp2_with fail
  refine (kfits_any _ _ _ [b, r, l, s] _ (rd4 (by simp [go_sem]) (by simp [go_sem]) (by simp [go_sem]) (by simp [go_sem])) rfl (by simp)).mono ?_
  rintro x w' ⟨rfl, rfl⟩
  rw [H1.out]
  go_wp2_with fail
  refine (Hw.out _).mono ?_
  rintro x w4 ⟨rfl, hb4⟩
  simp only [err2]
  have c4_0 := fun o => Below.cell hb4 (p := ⟨w.heap.size, o, none⟩) (by first | omega | (simp; done) | (simp; omega))
  have l4_0 : w.heap.size < w4.heap.size := Nat.lt_of_lt_of_le (by first | omega | (simp; done) | (simp; omega)) (Below.size hb4)
  have c4_1 := fun o => Below.cell hb4 (p := ⟨w.heap.size + 1, o, none⟩) (by first | omega | (simp; done) | (simp; omega))
  have l4_1 : w.heap.size + 1 < w4.heap.size := Nat.lt_of_lt_of_le (by first | omega | (simp; done) | (simp; omega)) (Below.size hb4)
  have c4_2 := fun o => Below.cell hb4 (p := ⟨w.heap.size + 1 + 1, o, none⟩) (by first | omega | (simp; done) | (simp; omega))
  have l4_2 : w.heap.size + 1 + 1 < w4.heap.size := Nat.lt_of_lt_of_le (by first | omega | (simp; done) | (simp; omega)) (Below.size hb4)
  have c4_3 := fun o => Below.cell hb4 (p := ⟨w3.heap.size, o, none⟩) (by first | omega | (simp; done) | (simp; omega))
  have l4_3 : w3.heap.size < w4.heap.size := Nat.lt_of_lt_of_le (by first | omega | (simp; done) | (simp; omega)) (Below.size hb4)
  go_wp2_with fail
  refine (kfits_any _ _ _ [l, s, l', s'] _ (rd4 (by simp [go_sem]) (by simp [go_sem]) (by simp [go_sem]) (by simp [go_sem])) rfl (by simp)).mono ?_
  rintro x w' ⟨rfl, rfl⟩
  rw [H2.out]
  go_wp2_with fail
  refine (Hw.out _).mono ?_
  rintro x w5 ⟨rfl, hb5⟩
  simp only [err2]
  go_wp2_with fail
  go_ret
  exact ⟨rfl, (by repeat (first | exact Below.refl _ _ | assumption | refine Below.drew ?_ | refine below_drewN ?_ _ | refine Below.alloc ?_ (by first | omega | (simp; done) | (simp; omega)) _ | refine Below.setCell ?_ (by first | omega | (simp; done) | (simp; omega)) _ | refine Below.trans ?_ (Below.mono (by assumption) (by first | omega | (simp; done) | (simp; omega)))))⟩

set_option maxRecDepth 100000 in
set_option maxHeartbeats 2000000 in
theorem core_bad_full (b r l s l' s' : Int) (o1 o2 : Bool) (d e k f kd : Int) (hd : d = 0) (he : e = 2) (hk : k = 0) (hf : f = 2) (ho1 : o1 = false) (ul us g : Int) (hul : ul = 0) (hus : us = 0) (hg : g = 4) (ho2 : o2 = true) (hll : 1048576 < l + l') (l0 : 0 ≤ l) (l1 : l ≤ 1048576) (l2 : 0 ≤ l') (l3 : l' ≤ 1048576) (w : World)
    (Hd : Hid (∀ W, Calls Try.prog 27 #[.agg #[.int .i64 b, .int .i64 r], .agg #[.int .i64 l, .int .i64 s]] W fun x w' => x = .returned (.tuple #[.int .i64 d, .int .i64 e]) ∧ Below W.heap.size W w'))
    (Hb : Hid (∀ W, Calls Try.prog 28 #[.agg #[.int .i64 b, .int .i64 r], .agg #[.int .i64 l, .int .i64 s]] W fun x w' => x = .returned (.tuple #[.int .i64 k, .int .i64 f]) ∧ Below W.heap.size W w'))
    (Hc : Hid (∀ W, Calls Try.prog 29 #[.agg #[.int .i64 l, .int .i64 s], .agg #[.int .i64 l', .int .i64 s']] W fun x w' => x = .returned (.tuple #[.agg #[.int .i64 ul, .int .i64 us], .int .i64 g]) ∧ Below W.heap.size W w'))
    (Hw : Hid (∀ W, Calls Try.prog 31 #[.agg #[.int .i64 b, .int .i64 r], .agg #[.int .i64 l, .int .i64 s]] W fun x w' => x = .returned (.int .i64 (err2 o1)) ∧ Below W.heap.size W w'))
    (H1 : Hid ([b, r, l, s].all fit20 = o1)) (H2 : Hid ([l, s, l', s'].all fit20 = o2)) :
    Calls Try.prog 6 #[.agg #[.int .i64 b, .int .i64 r], .agg #[.int .i64 l, .int .i64 s], .agg #[.int .i64 l', .int .i64 s']] w fun x w' => x = .returned (.bool true) ∧ Below w.heap.size w w' := by
  subst d e k f o1 ul us g o2
  go_enter Try.func6, Try.ntmps6
  go_wp2_with fail
  refine (Hd.out _).mono ?_
  rintro x w1 ⟨rfl, hb1⟩
  have c1_0 := fun o => Below.cell hb1 (p := ⟨w.heap.size, o, none⟩) (by first | omega | (simp; done) | (simp; omega))
  have l1_0 : w.heap.size < w1.heap.size := Nat.lt_of_lt_of_le (by first | omega | (simp; done) | (simp; omega)) (Below.size hb1)
  have c1_1 := fun o => Below.cell hb1 (p := ⟨w.heap.size + 1, o, none⟩) (by first | omega | (simp; done) | (simp; omega))
  have l1_1 : w.heap.size + 1 < w1.heap.size := Nat.lt_of_lt_of_le (by first | omega | (simp; done) | (simp; omega)) (Below.size hb1)
  have c1_2 := fun o => Below.cell hb1 (p := ⟨w.heap.size + 1 + 1, o, none⟩) (by first | omega | (simp; done) | (simp; omega))
  have l1_2 : w.heap.size + 1 + 1 < w1.heap.size := Nat.lt_of_lt_of_le (by first | omega | (simp; done) | (simp; omega)) (Below.size hb1)
  go_wp2_with fail
  refine (Hb.out _).mono ?_
  rintro x w2 ⟨rfl, hb2⟩
  have c2_0 := fun o => Below.cell hb2 (p := ⟨w.heap.size, o, none⟩) (by first | omega | (simp; done) | (simp; omega))
  have l2_0 : w.heap.size < w2.heap.size := Nat.lt_of_lt_of_le (by first | omega | (simp; done) | (simp; omega)) (Below.size hb2)
  have c2_1 := fun o => Below.cell hb2 (p := ⟨w.heap.size + 1, o, none⟩) (by first | omega | (simp; done) | (simp; omega))
  have l2_1 : w.heap.size + 1 < w2.heap.size := Nat.lt_of_lt_of_le (by first | omega | (simp; done) | (simp; omega)) (Below.size hb2)
  have c2_2 := fun o => Below.cell hb2 (p := ⟨w.heap.size + 1 + 1, o, none⟩) (by first | omega | (simp; done) | (simp; omega))
  have l2_2 : w.heap.size + 1 + 1 < w2.heap.size := Nat.lt_of_lt_of_le (by first | omega | (simp; done) | (simp; omega)) (Below.size hb2)
  go_wp2_with fail
  refine (Hc.out _).mono ?_
  rintro x w3 ⟨rfl, hb3⟩
  have c3_0 := fun o => Below.cell hb3 (p := ⟨w.heap.size, o, none⟩) (by first | omega | (simp; done) | (simp; omega))
  have l3_0 : w.heap.size < w3.heap.size := Nat.lt_of_lt_of_le (by first | omega | (simp; done) | (simp; omega)) (Below.size hb3)
  have c3_1 := fun o => Below.cell hb3 (p := ⟨w.heap.size + 1, o, none⟩) (by first | omega | (simp; done) | (simp; omega))
  have l3_1 : w.heap.size + 1 < w3.heap.size := Nat.lt_of_lt_of_le (by first | omega | (simp; done) | (simp; omega)) (Below.size hb3)
  have c3_2 := fun o => Below.cell hb3 (p := ⟨w.heap.size + 1 + 1, o, none⟩) (by first | omega | (simp; done) | (simp; omega))
  have l3_2 : w.heap.size + 1 + 1 < w3.heap.size := Nat.lt_of_lt_of_le (by first | omega | (simp; done) | (simp; omega)) (Below.size hb3)
  go_wp2_with fail
  refine (kfits_any _ _ _ [b, r, l, s] _ (rd4 (by simp [go_sem]) (by simp [go_sem]) (by simp [go_sem]) (by simp [go_sem])) rfl (by simp)).mono ?_
  rintro x w' ⟨rfl, rfl⟩
  rw [H1.out]
  go_wp2_with fail
  refine (Hw.out _).mono ?_
  rintro x w4 ⟨rfl, hb4⟩
  simp only [err2]
  have c4_0 := fun o => Below.cell hb4 (p := ⟨w.heap.size, o, none⟩) (by first | omega | (simp; done) | (simp; omega))
  have l4_0 : w.heap.size < w4.heap.size := Nat.lt_of_lt_of_le (by first | omega | (simp; done) | (simp; omega)) (Below.size hb4)
  have c4_1 := fun o => Below.cell hb4 (p := ⟨w.heap.size + 1, o, none⟩) (by first | omega | (simp; done) | (simp; omega))
  have l4_1 : w.heap.size + 1 < w4.heap.size := Nat.lt_of_lt_of_le (by first | omega | (simp; done) | (simp; omega)) (Below.size hb4)
  have c4_2 := fun o => Below.cell hb4 (p := ⟨w.heap.size + 1 + 1, o, none⟩) (by first | omega | (simp; done) | (simp; omega))
  have l4_2 : w.heap.size + 1 + 1 < w4.heap.size := Nat.lt_of_lt_of_le (by first | omega | (simp; done) | (simp; omega)) (Below.size hb4)
  have c4_3 := fun o => Below.cell hb4 (p := ⟨w3.heap.size, o, none⟩) (by first | omega | (simp; done) | (simp; omega))
  have l4_3 : w3.heap.size < w4.heap.size := Nat.lt_of_lt_of_le (by first | omega | (simp; done) | (simp; omega)) (Below.size hb4)
  go_wp2_with fail
  refine (kfits_any _ _ _ [l, s, l', s'] _ (rd4 (by simp [go_sem]) (by simp [go_sem]) (by simp [go_sem]) (by simp [go_sem])) rfl (by simp)).mono ?_
  rintro x w' ⟨rfl, rfl⟩
  rw [H2.out]
  go_wp2_with fail
  refine (Hw.out _).mono ?_
  rintro x w5 ⟨rfl, hb5⟩
  simp only [err2]
  go_wp2_with fail
  go_ret
  exact ⟨rfl, (by repeat (first | exact Below.refl _ _ | assumption | refine Below.drew ?_ | refine below_drewN ?_ _ | refine Below.alloc ?_ (by first | omega | (simp; done) | (simp; omega)) _ | refine Below.setCell ?_ (by first | omega | (simp; done) | (simp; omega)) _ | refine Below.trans ?_ (Below.mono (by assumption) (by first | omega | (simp; done) | (simp; omega)))))⟩

set_option maxRecDepth 100000 in
set_option maxHeartbeats 2000000 in
theorem core_bad_ok (b r l s l' s' : Int) (o1 o2 : Bool) (d e k f kd : Int) (hd : d = 0) (he : e = 2) (hk : k = 0) (hf : f = 2) (ho1 : o1 = false) (ul us g : Int) (hul : ul = l + l') (hus : us = min s s') (hg : g = 0) (ho2 : o2 = true) (hll : l + l' ≤ 1048576) (l0 : 0 ≤ l) (l1 : l ≤ 1048576) (l2 : 0 ≤ l') (l3 : l' ≤ 1048576) (w : World)
    (Hd : Hid (∀ W, Calls Try.prog 27 #[.agg #[.int .i64 b, .int .i64 r], .agg #[.int .i64 l, .int .i64 s]] W fun x w' => x = .returned (.tuple #[.int .i64 d, .int .i64 e]) ∧ Below W.heap.size W w'))
    (Hb : Hid (∀ W, Calls Try.prog 28 #[.agg #[.int .i64 b, .int .i64 r], .agg #[.int .i64 l, .int .i64 s]] W fun x w' => x = .returned (.tuple #[.int .i64 k, .int .i64 f]) ∧ Below W.heap.size W w'))
    (Hc : Hid (∀ W, Calls Try.prog 29 #[.agg #[.int .i64 l, .int .i64 s], .agg #[.int .i64 l', .int .i64 s']] W fun x w' => x = .returned (.tuple #[.agg #[.int .i64 ul, .int .i64 us], .int .i64 g]) ∧ Below W.heap.size W w'))
    (Hw : Hid (∀ W, Calls Try.prog 31 #[.agg #[.int .i64 b, .int .i64 r], .agg #[.int .i64 l, .int .i64 s]] W fun x w' => x = .returned (.int .i64 (err2 o1)) ∧ Below W.heap.size W w'))
    (H1 : Hid ([b, r, l, s].all fit20 = o1)) (H2 : Hid ([l, s, l', s'].all fit20 = o2)) :
    Calls Try.prog 6 #[.agg #[.int .i64 b, .int .i64 r], .agg #[.int .i64 l, .int .i64 s], .agg #[.int .i64 l', .int .i64 s']] w fun x w' => x = .returned (.bool true) ∧ Below w.heap.size w w' := by
  subst d e k f o1 ul us g o2
  by_cases hlt : s' < s
  · rw [Int.min_eq_right (by omega)] at Hc
    go_enter Try.func6, Try.ntmps6
    go_wp2_with fail
    refine (Hd.out _).mono ?_
    rintro x w1 ⟨rfl, hb1⟩
    have c1_0 := fun o => Below.cell hb1 (p := ⟨w.heap.size, o, none⟩) (by first | omega | (simp; done) | (simp; omega))
    have l1_0 : w.heap.size < w1.heap.size := Nat.lt_of_lt_of_le (by first | omega | (simp; done) | (simp; omega)) (Below.size hb1)
    have c1_1 := fun o => Below.cell hb1 (p := ⟨w.heap.size + 1, o, none⟩) (by first | omega | (simp; done) | (simp; omega))
    have l1_1 : w.heap.size + 1 < w1.heap.size := Nat.lt_of_lt_of_le (by first | omega | (simp; done) | (simp; omega)) (Below.size hb1)
    have c1_2 := fun o => Below.cell hb1 (p := ⟨w.heap.size + 1 + 1, o, none⟩) (by first | omega | (simp; done) | (simp; omega))
    have l1_2 : w.heap.size + 1 + 1 < w1.heap.size := Nat.lt_of_lt_of_le (by first | omega | (simp; done) | (simp; omega)) (Below.size hb1)
    go_wp2_with fail
    refine (Hb.out _).mono ?_
    rintro x w2 ⟨rfl, hb2⟩
    have c2_0 := fun o => Below.cell hb2 (p := ⟨w.heap.size, o, none⟩) (by first | omega | (simp; done) | (simp; omega))
    have l2_0 : w.heap.size < w2.heap.size := Nat.lt_of_lt_of_le (by first | omega | (simp; done) | (simp; omega)) (Below.size hb2)
    have c2_1 := fun o => Below.cell hb2 (p := ⟨w.heap.size + 1, o, none⟩) (by first | omega | (simp; done) | (simp; omega))
    have l2_1 : w.heap.size + 1 < w2.heap.size := Nat.lt_of_lt_of_le (by first | omega | (simp; done) | (simp; omega)) (Below.size hb2)
    have c2_2 := fun o => Below.cell hb2 (p := ⟨w.heap.size + 1 + 1, o, none⟩) (by first | omega | (simp; done) | (simp; omega))
    have l2_2 : w.heap.size + 1 + 1 < w2.heap.size := Nat.lt_of_lt_of_le (by first | omega | (simp; done) | (simp; omega)) (Below.size hb2)
    go_wp2_with fail
    refine (Hc.out _).mono ?_
    rintro x w3 ⟨rfl, hb3⟩
    have c3_0 := fun o => Below.cell hb3 (p := ⟨w.heap.size, o, none⟩) (by first | omega | (simp; done) | (simp; omega))
    have l3_0 : w.heap.size < w3.heap.size := Nat.lt_of_lt_of_le (by first | omega | (simp; done) | (simp; omega)) (Below.size hb3)
    have c3_1 := fun o => Below.cell hb3 (p := ⟨w.heap.size + 1, o, none⟩) (by first | omega | (simp; done) | (simp; omega))
    have l3_1 : w.heap.size + 1 < w3.heap.size := Nat.lt_of_lt_of_le (by first | omega | (simp; done) | (simp; omega)) (Below.size hb3)
    have c3_2 := fun o => Below.cell hb3 (p := ⟨w.heap.size + 1 + 1, o, none⟩) (by first | omega | (simp; done) | (simp; omega))
    have l3_2 : w.heap.size + 1 + 1 < w3.heap.size := Nat.lt_of_lt_of_le (by first | omega | (simp; done) | (simp; omega)) (Below.size hb3)
    go_wp2_with fail
    refine (kfits_any _ _ _ [b, r, l, s] _ (rd4 (by simp [go_sem]) (by simp [go_sem]) (by simp [go_sem]) (by simp [go_sem])) rfl (by simp)).mono ?_
    rintro x w' ⟨rfl, rfl⟩
    rw [H1.out]
    go_wp2_with fail
    refine (Hw.out _).mono ?_
    rintro x w4 ⟨rfl, hb4⟩
    simp only [err2]
    have c4_0 := fun o => Below.cell hb4 (p := ⟨w.heap.size, o, none⟩) (by first | omega | (simp; done) | (simp; omega))
    have l4_0 : w.heap.size < w4.heap.size := Nat.lt_of_lt_of_le (by first | omega | (simp; done) | (simp; omega)) (Below.size hb4)
    have c4_1 := fun o => Below.cell hb4 (p := ⟨w.heap.size + 1, o, none⟩) (by first | omega | (simp; done) | (simp; omega))
    have l4_1 : w.heap.size + 1 < w4.heap.size := Nat.lt_of_lt_of_le (by first | omega | (simp; done) | (simp; omega)) (Below.size hb4)
    have c4_2 := fun o => Below.cell hb4 (p := ⟨w.heap.size + 1 + 1, o, none⟩) (by first | omega | (simp; done) | (simp; omega))
    have l4_2 : w.heap.size + 1 + 1 < w4.heap.size := Nat.lt_of_lt_of_le (by first | omega | (simp; done) | (simp; omega)) (Below.size hb4)
    have c4_3 := fun o => Below.cell hb4 (p := ⟨w3.heap.size, o, none⟩) (by first | omega | (simp; done) | (simp; omega))
    have l4_3 : w3.heap.size < w4.heap.size := Nat.lt_of_lt_of_le (by first | omega | (simp; done) | (simp; omega)) (Below.size hb4)
    go_wp2_with fail
    refine (kfits_any _ _ _ [l, s, l', s'] _ (rd4 (by simp [go_sem]) (by simp [go_sem]) (by simp [go_sem]) (by simp [go_sem])) rfl (by simp)).mono ?_
    rintro x w' ⟨rfl, rfl⟩
    rw [H2.out]
    go_wp2_with fail
    refine (Hw.out _).mono ?_
    rintro x w5 ⟨rfl, hb5⟩
    simp only [err2]
    go_wp2_with fail
    go_ret
    exact ⟨rfl, (by repeat (first | exact Below.refl _ _ | assumption | refine Below.drew ?_ | refine below_drewN ?_ _ | refine Below.alloc ?_ (by first | omega | (simp; done) | (simp; omega)) _ | refine Below.setCell ?_ (by first | omega | (simp; done) | (simp; omega)) _ | refine Below.trans ?_ (Below.mono (by assumption) (by first | omega | (simp; done) | (simp; omega)))))⟩
  · rw [Int.min_eq_left (by omega)] at Hc
    go_enter Try.func6, Try.ntmps6
    go_wp2_with fail
    refine (Hd.out _).mono ?_
    rintro x w1 ⟨rfl, hb1⟩
    have c1_0 := fun o => Below.cell hb1 (p := ⟨w.heap.size, o, none⟩) (by first | omega | (simp; done) | (simp; omega))
    have l1_0 : w.heap.size < w1.heap.size := Nat.lt_of_lt_of_le (by first | omega | (simp; done) | (simp; omega)) (Below.size hb1)
    have c1_1 := fun o => Below.cell hb1 (p := ⟨w.heap.size + 1, o, none⟩) (by first | omega | (simp; done) | (simp; omega))
    have l1_1 : w.heap.size + 1 < w1.heap.size := Nat.lt_of_lt_of_le (by first | omega | (simp; done) | (simp; omega)) (Below.size hb1)
    have c1_2 := fun o => Below.cell hb1 (p := ⟨w.heap.size + 1 + 1, o, none⟩) (by first | omega | (simp; done) | (simp; omega))
    have l1_2 : w.heap.size + 1 + 1 < w1.heap.size := Nat.lt_of_lt_of_le (by first | omega | (simp; done) | (simp; omega)) (Below.size hb1)
    go_wp2_with fail
    refine (Hb.out _).mono ?_
    rintro x w2 ⟨rfl, hb2⟩
    have c2_0 := fun o => Below.cell hb2 (p := ⟨w.heap.size, o, none⟩) (by first | omega | (simp; done) | (simp; omega))
    have l2_0 : w.heap.size < w2.heap.size := Nat.lt_of_lt_of_le (by first | omega | (simp; done) | (simp; omega)) (Below.size hb2)
    have c2_1 := fun o => Below.cell hb2 (p := ⟨w.heap.size + 1, o, none⟩) (by first | omega | (simp; done) | (simp; omega))
    have l2_1 : w.heap.size + 1 < w2.heap.size := Nat.lt_of_lt_of_le (by first | omega | (simp; done) | (simp; omega)) (Below.size hb2)
    have c2_2 := fun o => Below.cell hb2 (p := ⟨w.heap.size + 1 + 1, o, none⟩) (by first | omega | (simp; done) | (simp; omega))
    have l2_2 : w.heap.size + 1 + 1 < w2.heap.size := Nat.lt_of_lt_of_le (by first | omega | (simp; done) | (simp; omega)) (Below.size hb2)
    go_wp2_with fail
    refine (Hc.out _).mono ?_
    rintro x w3 ⟨rfl, hb3⟩
    have c3_0 := fun o => Below.cell hb3 (p := ⟨w.heap.size, o, none⟩) (by first | omega | (simp; done) | (simp; omega))
    have l3_0 : w.heap.size < w3.heap.size := Nat.lt_of_lt_of_le (by first | omega | (simp; done) | (simp; omega)) (Below.size hb3)
    have c3_1 := fun o => Below.cell hb3 (p := ⟨w.heap.size + 1, o, none⟩) (by first | omega | (simp; done) | (simp; omega))
    have l3_1 : w.heap.size + 1 < w3.heap.size := Nat.lt_of_lt_of_le (by first | omega | (simp; done) | (simp; omega)) (Below.size hb3)
    have c3_2 := fun o => Below.cell hb3 (p := ⟨w.heap.size + 1 + 1, o, none⟩) (by first | omega | (simp; done) | (simp; omega))
    have l3_2 : w.heap.size + 1 + 1 < w3.heap.size := Nat.lt_of_lt_of_le (by first | omega | (simp; done) | (simp; omega)) (Below.size hb3)
    go_wp2_with fail
    refine (kfits_any _ _ _ [b, r, l, s] _ (rd4 (by simp [go_sem]) (by simp [go_sem]) (by simp [go_sem]) (by simp [go_sem])) rfl (by simp)).mono ?_
    rintro x w' ⟨rfl, rfl⟩
    rw [H1.out]
    go_wp2_with fail
    refine (Hw.out _).mono ?_
    rintro x w4 ⟨rfl, hb4⟩
    simp only [err2]
    have c4_0 := fun o => Below.cell hb4 (p := ⟨w.heap.size, o, none⟩) (by first | omega | (simp; done) | (simp; omega))
    have l4_0 : w.heap.size < w4.heap.size := Nat.lt_of_lt_of_le (by first | omega | (simp; done) | (simp; omega)) (Below.size hb4)
    have c4_1 := fun o => Below.cell hb4 (p := ⟨w.heap.size + 1, o, none⟩) (by first | omega | (simp; done) | (simp; omega))
    have l4_1 : w.heap.size + 1 < w4.heap.size := Nat.lt_of_lt_of_le (by first | omega | (simp; done) | (simp; omega)) (Below.size hb4)
    have c4_2 := fun o => Below.cell hb4 (p := ⟨w.heap.size + 1 + 1, o, none⟩) (by first | omega | (simp; done) | (simp; omega))
    have l4_2 : w.heap.size + 1 + 1 < w4.heap.size := Nat.lt_of_lt_of_le (by first | omega | (simp; done) | (simp; omega)) (Below.size hb4)
    have c4_3 := fun o => Below.cell hb4 (p := ⟨w3.heap.size, o, none⟩) (by first | omega | (simp; done) | (simp; omega))
    have l4_3 : w3.heap.size < w4.heap.size := Nat.lt_of_lt_of_le (by first | omega | (simp; done) | (simp; omega)) (Below.size hb4)
    go_wp2_with fail
    refine (kfits_any _ _ _ [l, s, l', s'] _ (rd4 (by simp [go_sem]) (by simp [go_sem]) (by simp [go_sem]) (by simp [go_sem])) rfl (by simp)).mono ?_
    rintro x w' ⟨rfl, rfl⟩
    rw [H2.out]
    go_wp2_with fail
    refine (Hw.out _).mono ?_
    rintro x w5 ⟨rfl, hb5⟩
    simp only [err2]
    go_wp2_with fail
    go_ret
    exact ⟨rfl, (by repeat (first | exact Below.refl _ _ | assumption | refine Below.drew ?_ | refine below_drewN ?_ _ | refine Below.alloc ?_ (by first | omega | (simp; done) | (simp; omega)) _ | refine Below.setCell ?_ (by first | omega | (simp; done) | (simp; omega)) _ | refine Below.trans ?_ (Below.mono (by assumption) (by first | omega | (simp; done) | (simp; omega)))))⟩

set_option maxRecDepth 100000 in
set_option maxHeartbeats 2000000 in
theorem core_none_bad (b r l s l' s' : Int) (o1 o2 : Bool) (d e k f kd : Int) (hd : d = 0) (he : e = 3) (hk : k = 0) (hf : f = 3) (ho1 : o1 = true) (hkd : kd = -1) (ul us g : Int) (hul : ul = 0) (hus : us = 0) (hg : g = 2) (ho2 : o2 = false) (w : World)
    (Hd : Hid (∀ W, Calls Try.prog 27 #[.agg #[.int .i64 b, .int .i64 r], .agg #[.int .i64 l, .int .i64 s]] W fun x w' => x = .returned (.tuple #[.int .i64 d, .int .i64 e]) ∧ Below W.heap.size W w'))
    (Hb : Hid (∀ W, Calls Try.prog 28 #[.agg #[.int .i64 b, .int .i64 r], .agg #[.int .i64 l, .int .i64 s]] W fun x w' => x = .returned (.tuple #[.int .i64 k, .int .i64 f]) ∧ Below W.heap.size W w'))
    (Hc : Hid (∀ W, Calls Try.prog 29 #[.agg #[.int .i64 l, .int .i64 s], .agg #[.int .i64 l', .int .i64 s']] W fun x w' => x = .returned (.tuple #[.agg #[.int .i64 ul, .int .i64 us], .int .i64 g]) ∧ Below W.heap.size W w'))
    (Hw : Hid (∀ W, Calls Try.prog 31 #[.agg #[.int .i64 b, .int .i64 r], .agg #[.int .i64 l, .int .i64 s]] W fun x w' => x = .returned (.int .i64 (err2 o1)) ∧ Below W.heap.size W w'))
    (H1 : Hid ([b, r, l, s].all fit20 = o1)) (H2 : Hid ([l, s, l', s'].all fit20 = o2))
    (Hk : Hid (∀ W, Calls Try.prog 32 #[.agg #[.int .i64 b, .int .i64 r], .agg #[.int .i64 l, .int .i64 s]] W fun x w' => x = .returned (.int .i64 kd) ∧ Below W.heap.size W w')) :
    Calls Try.prog 6 #[.agg #[.int .i64 b, .int .i64 r], .agg #[.int .i64 l, .int .i64 s], .agg #[.int .i64 l', .int .i64 s']] w fun x w' => x = .returned (.bool true) ∧ Below w.heap.size w w' := by
  subst d e k f o1 kd ul us g o2
  go_enter Try.func6, Try.ntmps6
  go_wp2_with fail
  refine (Hd.out _).mono ?_
  rintro x w1 ⟨rfl, hb1⟩
  have c1_0 := fun o => Below.cell hb1 (p := ⟨w.heap.size, o, none⟩) (by first | omega | (simp; done) | (simp; omega))
  have l1_0 : w.heap.size < w1.heap.size := Nat.lt_of_lt_of_le (by first | omega | (simp; done) | (simp; omega)) (Below.size hb1)
  have c1_1 := fun o => Below.cell hb1 (p := ⟨w.heap.size + 1, o, none⟩) (by first | omega | (simp; done) | (simp; omega))
  have l1_1 : w.heap.size + 1 < w1.heap.size := Nat.lt_of_lt_of_le (by first | omega | (simp; done) | (simp; omega)) (Below.size hb1)
  have c1_2 := fun o => Below.cell hb1 (p := ⟨w.heap.size + 1 + 1, o, none⟩) (by first | omega | (simp; done) | (simp; omega))
  have l1_2 : w.heap.size + 1 + 1 < w1.heap.size := Nat.lt_of_lt_of_le (by first | omega | (simp; done) | (simp; omega)) (Below.size hb1)
  go_wp2_with fail
  refine (Hb.out _).mono ?_
  rintro x w2 ⟨rfl, hb2⟩
  have c2_0 := fun o => Below.cell hb2 (p := ⟨w.heap.size, o, none⟩) (by first | omega | (simp; done) | (simp; omega))
  have l2_0 : w.heap.size < w2.heap.size := Nat.lt_of_lt_of_le (by first | omega | (simp; done) | (simp; omega)) (Below.size hb2)
  have c2_1 := fun o => Below.cell hb2 (p := ⟨w.heap.size + 1, o, none⟩) (by first | omega | (simp; done) | (simp; omega))
  have l2_1 : w.heap.size + 1 < w2.heap.size := Nat.lt_of_lt_of_le (by first | omega | (simp; done) | (simp; omega)) (Below.size hb2)
  have c2_2 := fun o => Below.cell hb2 (p := ⟨w.heap.size + 1 + 1, o, none⟩) (by first | omega | (simp; done) | (simp; omega))
  have l2_2 : w.heap.size + 1 + 1 < w2.heap.size := Nat.lt_of_lt_of_le (by first | omega | (simp; done) | (simp; omega)) (Below.size hb2)
  go_wp2_with fail
  refine (Hc.out _).mono ?_
  rintro x w3 ⟨rfl, hb3⟩
  have c3_0 := fun o => Below.cell hb3 (p := ⟨w.heap.size, o, none⟩) (by first | omega | (simp; done) | (simp; omega))
  have l3_0 : w.heap.size < w3.heap.size := Nat.lt_of_lt_of_le (by first | omega | (simp; done) | (simp; omega)) (Below.size hb3)
  have c3_1 := fun o => Below.cell hb3 (p := ⟨w.heap.size + 1, o, none⟩) (by first | omega | (simp; done) | (simp; omega))
  have l3_1 : w.heap.size + 1 < w3.heap.size := Nat.lt_of_lt_of_le (by first | omega | (simp; done) | (simp; omega)) (Below.size hb3)
  have c3_2 := fun o => Below.cell hb3 (p := ⟨w.heap.size + 1 + 1, o, none⟩) (by first | omega | (simp; done) | (simp; omega))
  have l3_2 : w.heap.size + 1 + 1 < w3.heap.size := Nat.lt_of_lt_of_le (by first | omega | (simp; done) | (simp; omega)) (Below.size hb3)
  go_wp2_with fail
  refine (kfits_any _ _ _ [b, r, l, s] _ (rd4 (by simp [go_sem]) (by simp [go_sem]) (by simp [go_sem]) (by simp [go_sem])) rfl (by simp)).mono ?_
  rintro x w' ⟨rfl, rfl⟩
  rw [H1.out]
  go_wp2_with fail
  refine (Hw.out _).mono ?_
  rintro x w4 ⟨rfl, hb4⟩
  simp only [err2]
  have c4_0 := fun o => Below.cell hb4 (p := ⟨w.heap.size, o, none⟩) (by first | omega | (simp; done) | (simp; omega))
  have l4_0 : w.heap.size < w4.heap.size := Nat.lt_of_lt_of_le (by first | omega | (simp; done) | (simp; omega)) (Below.size hb4)
  have c4_1 := fun o => Below.cell hb4 (p := ⟨w.heap.size + 1, o, none⟩) (by first | omega | (simp; done) | (simp; omega))
  have l4_1 : w.heap.size + 1 < w4.heap.size := Nat.lt_of_lt_of_le (by first | omega | (simp; done) | (simp; omega)) (Below.size hb4)
  have c4_2 := fun o => Below.cell hb4 (p := ⟨w.heap.size + 1 + 1, o, none⟩) (by first | omega | (simp; done) | (simp; omega))
  have l4_2 : w.heap.size + 1 + 1 < w4.heap.size := Nat.lt_of_lt_of_le (by first | omega | (simp; done) | (simp; omega)) (Below.size hb4)
  have c4_3 := fun o => Below.cell hb4 (p := ⟨w3.heap.size, o, none⟩) (by first | omega | (simp; done) | (simp; omega))
  have l4_3 : w3.heap.size < w4.heap.size := Nat.lt_of_lt_of_le (by first | omega | (simp; done) | (simp; omega)) (Below.size hb4)
  go_wp2_with fail
  refine (kfits_any _ _ _ [l, s, l', s'] _ (rd4 (by simp [go_sem]) (by simp [go_sem]) (by simp [go_sem]) (by simp [go_sem])) rfl (by simp)).mono ?_
  rintro x w' ⟨rfl, rfl⟩
  rw [H2.out]
  go_wp2_with fail
  refine (Hk.out _).mono ?_
  rintro x w5 ⟨rfl, hb5⟩
  have c5_0 := fun o => Below.cell hb5 (p := ⟨w.heap.size, o, none⟩) (by first | omega | (simp; done) | (simp; omega))
  have l5_0 : w.heap.size < w5.heap.size := Nat.lt_of_lt_of_le (by first | omega | (simp; done) | (simp; omega)) (Below.size hb5)
  have c5_1 := fun o => Below.cell hb5 (p := ⟨w.heap.size + 1, o, none⟩) (by first | omega | (simp; done) | (simp; omega))
  have l5_1 : w.heap.size + 1 < w5.heap.size := Nat.lt_of_lt_of_le (by first | omega | (simp; done) | (simp; omega)) (Below.size hb5)
  have c5_2 := fun o => Below.cell hb5 (p := ⟨w.heap.size + 1 + 1, o, none⟩) (by first | omega | (simp; done) | (simp; omega))
  have l5_2 : w.heap.size + 1 + 1 < w5.heap.size := Nat.lt_of_lt_of_le (by first | omega | (simp; done) | (simp; omega)) (Below.size hb5)
  have c5_3 := fun o => Below.cell hb5 (p := ⟨w3.heap.size, o, none⟩) (by first | omega | (simp; done) | (simp; omega))
  have l5_3 : w3.heap.size < w5.heap.size := Nat.lt_of_lt_of_le (by first | omega | (simp; done) | (simp; omega)) (Below.size hb5)
  go_wp2_with fail
  go_ret
  exact ⟨rfl, (by repeat (first | exact Below.refl _ _ | assumption | refine Below.drew ?_ | refine below_drewN ?_ _ | refine Below.alloc ?_ (by first | omega | (simp; done) | (simp; omega)) _ | refine Below.setCell ?_ (by first | omega | (simp; done) | (simp; omega)) _ | refine Below.trans ?_ (Below.mono (by assumption) (by first | omega | (simp; done) | (simp; omega)))))⟩

set_option maxRecDepth 100000 in
set_option maxHeartbeats 2000000 in
theorem core_none_full (b r l s l' s' : Int) (o1 o2 : Bool) (d e k f kd : Int) (hd : d = 0) (he : e = 3) (hk : k = 0) (hf : f = 3) (ho1 : o1 = true) (hkd : kd = -1) (ul us g : Int) (hul : ul = 0) (hus : us = 0) (hg : g = 4) (ho2 : o2 = true) (hll : 1048576 < l + l') (l0 : 0 ≤ l) (l1 : l ≤ 1048576) (l2 : 0 ≤ l') (l3 : l' ≤ 1048576) (w : World)
    (Hd : Hid (∀ W, Calls Try.prog 27 #[.agg #[.int .i64 b, .int .i64 r], .agg #[.int .i64 l, .int .i64 s]] W fun x w' => x = .returned (.tuple #[.int .i64 d, .int .i64 e]) ∧ Below W.heap.size W w'))
    (Hb : Hid (∀ W, Calls Try.prog 28 #[.agg #[.int .i64 b, .int .i64 r], .agg #[.int .i64 l, .int .i64 s]] W fun x w' => x = .returned (.tuple #[.int .i64 k, .int .i64 f]) ∧ Below W.heap.size W w'))
    (Hc : Hid (∀ W, Calls Try.prog 29 #[.agg #[.int .i64 l, .int .i64 s], .agg #[.int .i64 l', .int .i64 s']] W fun x w' => x = .returned (.tuple #[.agg #[.int .i64 ul, .int .i64 us], .int .i64 g]) ∧ Below W.heap.size W w'))
    (Hw : Hid (∀ W, Calls Try.prog 31 #[.agg #[.int .i64 b, .int .i64 r], .agg #[.int .i64 l, .int .i64 s]] W fun x w' => x = .returned (.int .i64 (err2 o1)) ∧ Below W.heap.size W w'))
    (H1 : Hid ([b, r, l, s].all fit20 = o1)) (H2 : Hid ([l, s, l', s'].all fit20 = o2))
    (Hk : Hid (∀ W, Calls Try.prog 32 #[.agg #[.int .i64 b, .int .i64 r], .agg #[.int .i64 l, .int .i64 s]] W fun x w' => x = .returned (.int .i64 kd) ∧ Below W.heap.size W w')) :
    Calls Try.prog 6 #[.agg #[.int .i64 b, .int .i64 r], .agg #[.int .i64 l, .int .i64 s], .agg #[.int .i64 l', .int .i64 s']] w fun x w' => x = .returned (.bool true) ∧ Below w.heap.size w w' := by
  subst d e k f o1 kd ul us g o2
  go_enter Try.func6, Try.ntmps6
  go_wp2_with fail
  refine (Hd.out _).mono ?_
  rintro x w1 ⟨rfl, hb1⟩
  have c1_0 := fun o => Below.cell hb1 (p := ⟨w.heap.size, o, none⟩) (by first | omega | (simp; done) | (simp; omega))
  have l1_0 : w.heap.size < w1.heap.size := Nat.lt_of_lt_of_le (by first | omega | (simp; done) | (simp; omega)) (Below.size hb1)
  have c1_1 := fun o => Below.cell hb1 (p := ⟨w.heap.size + 1, o, none⟩) (by first | omega | (simp; done) | (simp; omega))
  have l1_1 : w.heap.size + 1 < w1.heap.size := Nat.lt_of_lt_of_le (by first | omega | (simp; done) | (simp; omega)) (Below.size hb1)
  have c1_2 := fun o => Below.cell hb1 (p := ⟨w.heap.size + 1 + 1, o, none⟩) (by first | omega | (simp; done) | (simp; omega))
  have l1_2 : w.heap.size + 1 + 1 < w1.heap.size := Nat.lt_of_lt_of_le (by first | omega | (simp; done) | (simp; omega)) (Below.size hb1)
  go_wp2_with fail
  refine (Hb.out _).mono ?_
  rintro x w2 ⟨rfl, hb2⟩
  have c2_0 := fun o => Below.cell hb2 (p := ⟨w.heap.size, o, none⟩) (by first | omega | (simp; done) | (simp; omega))
  have l2_0 : w.heap.size < w2.heap.size := Nat.lt_of_lt_of_le (by first | omega | (simp; done) | (simp; omega)) (Below.size hb2)
  have c2_1 := fun o => Below.cell hb2 (p := ⟨w.heap.size + 1, o, none⟩) (by first | omega | (simp; done) | (simp; omega))
  have l2_1 : w.heap.size + 1 < w2.heap.size := Nat.lt_of_lt_of_le (by first | omega | (simp; done) | (simp; omega)) (Below.size hb2)
  have c2_2 := fun o => Below.cell hb2 (p := ⟨w.heap.size + 1 + 1, o, none⟩) (by first | omega | (simp; done) | (simp; omega))
  have l2_2 : w.heap.size + 1 + 1 < w2.heap.size := Nat.lt_of_lt_of_le (by first | omega | (simp; done) | (simp; omega)) (Below.size hb2)
  go_wp2_with fail
  refine (Hc.out _).mono ?_
  rintro x w3 ⟨rfl, hb3⟩
  have c3_0 := fun o => Below.cell hb3 (p := ⟨w.heap.size, o, none⟩) (by first | omega | (simp; done) | (simp; omega))
  have l3_0 : w.heap.size < w3.heap.size := Nat.lt_of_lt_of_le (by first | omega | (simp; done) | (simp; omega)) (Below.size hb3)
  have c3_1 := fun o => Below.cell hb3 (p := ⟨w.heap.size + 1, o, none⟩) (by first | omega | (simp; done) | (simp; omega))
  have l3_1 : w.heap.size + 1 < w3.heap.size := Nat.lt_of_lt_of_le (by first | omega | (simp; done) | (simp; omega)) (Below.size hb3)
  have c3_2 := fun o => Below.cell hb3 (p := ⟨w.heap.size + 1 + 1, o, none⟩) (by first | omega | (simp; done) | (simp; omega))
  have l3_2 : w.heap.size + 1 + 1 < w3.heap.size := Nat.lt_of_lt_of_le (by first | omega | (simp; done) | (simp; omega)) (Below.size hb3)
  go_wp2_with fail
  refine (kfits_any _ _ _ [b, r, l, s] _ (rd4 (by simp [go_sem]) (by simp [go_sem]) (by simp [go_sem]) (by simp [go_sem])) rfl (by simp)).mono ?_
  rintro x w' ⟨rfl, rfl⟩
  rw [H1.out]
  go_wp2_with fail
  refine (Hw.out _).mono ?_
  rintro x w4 ⟨rfl, hb4⟩
  simp only [err2]
  have c4_0 := fun o => Below.cell hb4 (p := ⟨w.heap.size, o, none⟩) (by first | omega | (simp; done) | (simp; omega))
  have l4_0 : w.heap.size < w4.heap.size := Nat.lt_of_lt_of_le (by first | omega | (simp; done) | (simp; omega)) (Below.size hb4)
  have c4_1 := fun o => Below.cell hb4 (p := ⟨w.heap.size + 1, o, none⟩) (by first | omega | (simp; done) | (simp; omega))
  have l4_1 : w.heap.size + 1 < w4.heap.size := Nat.lt_of_lt_of_le (by first | omega | (simp; done) | (simp; omega)) (Below.size hb4)
  have c4_2 := fun o => Below.cell hb4 (p := ⟨w.heap.size + 1 + 1, o, none⟩) (by first | omega | (simp; done) | (simp; omega))
  have l4_2 : w.heap.size + 1 + 1 < w4.heap.size := Nat.lt_of_lt_of_le (by first | omega | (simp; done) | (simp; omega)) (Below.size hb4)
  have c4_3 := fun o => Below.cell hb4 (p := ⟨w3.heap.size, o, none⟩) (by first | omega | (simp; done) | (simp; omega))
  have l4_3 : w3.heap.size < w4.heap.size := Nat.lt_of_lt_of_le (by first | omega | (simp; done) | (simp; omega)) (Below.size hb4)
  go_wp2_with fail
  refine (kfits_any _ _ _ [l, s, l', s'] _ (rd4 (by simp [go_sem]) (by simp [go_sem]) (by simp [go_sem]) (by simp [go_sem])) rfl (by simp)).mono ?_
  rintro x w' ⟨rfl, rfl⟩
  rw [H2.out]
  go_wp2_with fail
  refine (Hk.out _).mono ?_
  rintro x w5 ⟨rfl, hb5⟩
  have c5_0 := fun o => Below.cell hb5 (p := ⟨w.heap.size, o, none⟩) (by first | omega | (simp; done) | (simp; omega))
  have l5_0 : w.heap.size < w5.heap.size := Nat.lt_of_lt_of_le (by first | omega | (simp; done) | (simp; omega)) (Below.size hb5)
  have c5_1 := fun o => Below.cell hb5 (p := ⟨w.heap.size + 1, o, none⟩) (by first | omega | (simp; done) | (simp; omega))
  have l5_1 : w.heap.size + 1 < w5.heap.size := Nat.lt_of_lt_of_le (by first | omega | (simp; done) | (simp; omega)) (Below.size hb5)
  have c5_2 := fun o => Below.cell hb5 (p := ⟨w.heap.size + 1 + 1, o, none⟩) (by first | omega | (simp; done) | (simp; omega))
  have l5_2 : w.heap.size + 1 + 1 < w5.heap.size := Nat.lt_of_lt_of_le (by first | omega | (simp; done) | (simp; omega)) (Below.size hb5)
  have c5_3 := fun o => Below.cell hb5 (p := ⟨w3.heap.size, o, none⟩) (by first | omega | (simp; done) | (simp; omega))
  have l5_3 : w3.heap.size < w5.heap.size := Nat.lt_of_lt_of_le (by first | omega | (simp; done) | (simp; omega)) (Below.size hb5)
  go_wp2_with fail
  go_ret
  exact ⟨rfl, (by repeat (first | exact Below.refl _ _ | assumption | refine Below.drew ?_ | refine below_drewN ?_ _ | refine Below.alloc ?_ (by first | omega | (simp; done) | (simp; omega)) _ | refine Below.setCell ?_ (by first | omega | (simp; done) | (simp; omega)) _ | refine Below.trans ?_ (Below.mono (by assumption) (by first | omega | (simp; done) | (simp; omega)))))⟩

set_option maxRecDepth 100000 in
set_option maxHeartbeats 2000000 in
theorem core_none_ok (b r l s l' s' : Int) (o1 o2 : Bool) (d e k f kd : Int) (hd : d = 0) (he : e = 3) (hk : k = 0) (hf : f = 3) (ho1 : o1 = true) (hkd : kd = -1) (ul us g : Int) (hul : ul = l + l') (hus : us = min s s') (hg : g = 0) (ho2 : o2 = true) (hll : l + l' ≤ 1048576) (l0 : 0 ≤ l) (l1 : l ≤ 1048576) (l2 : 0 ≤ l') (l3 : l' ≤ 1048576) (w : World)
    (Hd : Hid (∀ W, Calls Try.prog 27 #[.agg #[.int .i64 b, .int .i64 r], .agg #[.int .i64 l, .int .i64 s]] W fun x w' => x = .returned (.tuple #[.int .i64 d, .int .i64 e]) ∧ Below W.heap.size W w'))
    (Hb : Hid (∀ W, Calls Try.prog 28 #[.agg #[.int .i64 b, .int .i64 r], .agg #[.int .i64 l, .int .i64 s]] W fun x w' => x = .returned (.tuple #[.int .i64 k, .int .i64 f]) ∧ Below W.heap.size W w'))
    (Hc : Hid (∀ W, Calls Try.prog 29 #[.agg #[.int .i64 l, .int .i64 s], .agg #[.int .i64 l', .int .i64 s']] W fun x w' => x = .returned (.tuple #[.agg #[.int .i64 ul, .int .i64 us], .int .i64 g]) ∧ Below W.heap.size W w'))
    (Hw : Hid (∀ W, Calls Try.prog 31 #[.agg #[.int .i64 b, .int .i64 r], .agg #[.int .i64 l, .int .i64 s]] W fun x w' => x = .returned (.int .i64 (err2 o1)) ∧ Below W.heap.size W w'))
    (H1 : Hid ([b, r, l, s].all fit20 = o1)) (H2 : Hid ([l, s, l', s'].all fit20 = o2))
    (Hk : Hid (∀ W, Calls Try.prog 32 #[.agg #[.int .i64 b, .int .i64 r], .agg #[.int .i64 l, .int .i64 s]] W fun x w' => x = .returned (.int .i64 kd) ∧ Below W.heap.size W w')) :
    Calls Try.prog 6 #[.agg #[.int .i64 b, .int .i64 r], .agg #[.int .i64 l, .int .i64 s], .agg #[.int .i64 l', .int .i64 s']] w fun x w' => x = .returned (.bool true) ∧ Below w.heap.size w w' := by
  subst d e k f o1 kd ul us g o2
  by_cases hlt : s' < s
  · rw [Int.min_eq_right (by omega)] at Hc
    go_enter Try.func6, Try.ntmps6
    go_wp2_with fail
    refine (Hd.out _).mono ?_
    rintro x w1 ⟨rfl, hb1⟩
    have c1_0 := fun o => Below.cell hb1 (p := ⟨w.heap.size, o, none⟩) (by first | omega | (simp; done) | (simp; omega))
    have l1_0 : w.heap.size < w1.heap.size := Nat.lt_of_lt_of_le (by first | omega | (simp; done) | (simp; omega)) (Below.size hb1)
    have c1_1 := fun o => Below.cell hb1 (p := ⟨w.heap.size + 1, o, none⟩) (by first | omega | (simp; done) | (simp; omega))
    have l1_1 : w.heap.size + 1 < w1.heap.size := Nat.lt_of_lt_of_le (by first | omega | (simp; done) | (simp; omega)) (Below.size hb1)
    have c1_2 := fun o => Below.cell hb1 (p := ⟨w.heap.size + 1 + 1, o, none⟩) (by first | omega | (simp; done) | (simp; omega))
    have l1_2 : w.heap.size + 1 + 1 < w1.heap.size := Nat.lt_of_lt_of_le (by first | omega | (simp; done) | (simp; omega)) (Below.size hb1)
    go_wp2_with fail
    refine (Hb.out _).mono ?_
    rintro x w2 ⟨rfl, hb2⟩
    have c2_0 := fun o => Below.cell hb2 (p := ⟨w.heap.size, o, none⟩) (by first | omega | (simp; done) | (simp; omega))
    have l2_0 : w.heap.size < w2.heap.size := Nat.lt_of_lt_of_le (by first | omega | (simp; done) | (simp; omega)) (Below.size hb2)
    have c2_1 := fun o => Below.cell hb2 (p := ⟨w.heap.size + 1, o, none⟩) (by first | omega | (simp; done) | (simp; omega))
    have l2_1 : w.heap.size + 1 < w2.heap.size := Nat.lt_of_lt_of_le (by first | omega | (simp; done) | (simp; omega)) (Below.size hb2)
    have c2_2 := fun o => Below.cell hb2 (p := ⟨w.heap.size + 1 + 1, o, none⟩) (by first | omega | (simp; done) | (simp; omega))
    have l2_2 : w.heap.size + 1 + 1 < w2.heap.size := Nat.lt_of_lt_of_le (by first | omega | (simp; done) | (simp; omega)) (Below.size hb2)
    go_wp2_with fail
    refine (Hc.out _).mono ?_
    rintro x w3 ⟨rfl, hb3⟩
    have c3_0 := fun o => Below.cell hb3 (p := ⟨w.heap.size, o, none⟩) (by first | omega | (simp; done) | (simp; omega))
    have l3_0 : w.heap.size < w3.heap.size := Nat.lt_of_lt_of_le (by first | omega | (simp; done) | (simp; omega)) (Below.size hb3)
    have c3_1 := fun o => Below.cell hb3 (p := ⟨w.heap.size + 1, o, none⟩) (by first | omega | (simp; done) | (simp; omega))
    have l3_1 : w.heap.size + 1 < w3.heap.size := Nat.lt_of_lt_of_le (by first | omega | (simp; done) | (simp; omega)) (Below.size hb3)
    have c3_2 := fun o => Below.cell hb3 (p := ⟨w.heap.size + 1 + 1, o, none⟩) (by first | omega | (simp; done) | (simp; omega))
    have l3_2 : w.heap.size + 1 + 1 < w3.heap.size := Nat.lt_of_lt_of_le (by first | omega | (simp; done) | (simp; omega)) (Below.size hb3)
    go_wp2_with fail
    refine (kfits_any _ _ _ [b, r, l, s] _ (rd4 (by simp [go_sem]) (by simp [go_sem]) (by simp [go_sem]) (by simp [go_sem])) rfl (by simp)).mono ?_
    rintro x w' ⟨rfl, rfl⟩
    rw [H1.out]
    go_wp2_with fail
    refine (Hw.out _).mono ?_
    rintro x w4 ⟨rfl, hb4⟩
    simp only [err2]
    have c4_0 := fun o => Below.cell hb4 (p := ⟨w.heap.size, o, none⟩) (by first | omega | (simp; done) | (simp; omega))
    have l4_0 : w.heap.size < w4.heap.size := Nat.lt_of_lt_of_le (by first | omega | (simp; done) | (simp; omega)) (Below.size hb4)
    have c4_1 := fun o => Below.cell hb4 (p := ⟨w.heap.size + 1, o, none⟩) (by first | omega | (simp; done) | (simp; omega))
    have l4_1 : w.heap.size + 1 < w4.heap.size := Nat.lt_of_lt_of_le (by first | omega | (simp; done) | (simp; omega)) (Below.size hb4)
    have c4_2 := fun o => Below.cell hb4 (p := ⟨w.heap.size + 1 + 1, o, none⟩) (by first | omega | (simp; done) | (simp; omega))
    have l4_2 : w.heap.size + 1 + 1 < w4.heap.size := Nat.lt_of_lt_of_le (by first | omega | (simp; done) | (simp; omega)) (Below.size hb4)
    have c4_3 := fun o => Below.cell hb4 (p := ⟨w3.heap.size, o, none⟩) (by first | omega | (simp; done) | (simp; omega))
    have l4_3 : w3.heap.size < w4.heap.size := Nat.lt_of_lt_of_le (by first | omega | (simp; done) | (simp; omega)) (Below.size hb4)
    go_wp2_with fail
    refine (kfits_any _ _ _ [l, s, l', s'] _ (rd4 (by simp [go_sem]) (by simp [go_sem]) (by simp [go_sem]) (by simp [go_sem])) rfl (by simp)).mono ?_
    rintro x w' ⟨rfl, rfl⟩
    rw [H2.out]
    go_wp2_with fail
    refine (Hk.out _).mono ?_
    rintro x w5 ⟨rfl, hb5⟩
    have c5_0 := fun o => Below.cell hb5 (p := ⟨w.heap.size, o, none⟩) (by first | omega | (simp; done) | (simp; omega))
    have l5_0 : w.heap.size < w5.heap.size := Nat.lt_of_lt_of_le (by first | omega | (simp; done) | (simp; omega)) (Below.size hb5)
    have c5_1 := fun o => Below.cell hb5 (p := ⟨w.heap.size + 1, o, none⟩) (by first | omega | (simp; done) | (simp; omega))
    have l5_1 : w.heap.size + 1 < w5.heap.size := Nat.lt_of_lt_of_le (by first | omega | (simp; done) | (simp; omega)) (Below.size hb5)
    have c5_2 := fun o => Below.cell hb5 (p := ⟨w.heap.size + 1 + 1, o, none⟩) (by first | omega | (simp; done) | (simp; omega))
    have l5_2 : w.heap.size + 1 + 1 < w5.heap.size := Nat.lt_of_lt_of_le (by first | omega | (simp; done) | (simp; omega)) (Below.size hb5)
    have c5_3 := fun o => Below.cell hb5 (p := ⟨w3.heap.size, o, none⟩) (by first | omega | (simp; done) | (simp; omega))
    have l5_3 : w3.heap.size < w5.heap.size := Nat.lt_of_lt_of_le (by first | omega | (simp; done) | (simp; omega)) (Below.size hb5)
    go_wp2_with fail
    go_ret
    exact ⟨rfl, (by repeat (first | exact Below.refl _ _ | assumption | refine Below.drew ?_ | refine below_drewN ?_ _ | refine Below.alloc ?_ (by first | omega | (simp; done) | (simp; omega)) _ | refine Below.setCell ?_ (by first | omega | (simp; done) | (simp; omega)) _ | refine Below.trans ?_ (Below.mono (by assumption) (by first | omega | (simp; done) | (simp; omega)))))⟩
  · rw [Int.min_eq_left (by omega)] at Hc
    go_enter Try.func6, Try.ntmps6
    go_wp2_with fail
    refine (Hd.out _).mono ?_
    rintro x w1 ⟨rfl, hb1⟩
    have c1_0 := fun o => Below.cell hb1 (p := ⟨w.heap.size, o, none⟩) (by first | omega | (simp; done) | (simp; omega))
    have l1_0 : w.heap.size < w1.heap.size := Nat.lt_of_lt_of_le (by first | omega | (simp; done) | (simp; omega)) (Below.size hb1)
    have c1_1 := fun o => Below.cell hb1 (p := ⟨w.heap.size + 1, o, none⟩) (by first | omega | (simp; done) | (simp; omega))
    have l1_1 : w.heap.size + 1 < w1.heap.size := Nat.lt_of_lt_of_le (by first | omega | (simp; done) | (simp; omega)) (Below.size hb1)
    have c1_2 := fun o => Below.cell hb1 (p := ⟨w.heap.size + 1 + 1, o, none⟩) (by first | omega | (simp; done) | (simp; omega))
    have l1_2 : w.heap.size + 1 + 1 < w1.heap.size := Nat.lt_of_lt_of_le (by first | omega | (simp; done) | (simp; omega)) (Below.size hb1)
    go_wp2_with fail
    refine (Hb.out _).mono ?_
    rintro x w2 ⟨rfl, hb2⟩
    have c2_0 := fun o => Below.cell hb2 (p := ⟨w.heap.size, o, none⟩) (by first | omega | (simp; done) | (simp; omega))
    have l2_0 : w.heap.size < w2.heap.size := Nat.lt_of_lt_of_le (by first | omega | (simp; done) | (simp; omega)) (Below.size hb2)
    have c2_1 := fun o => Below.cell hb2 (p := ⟨w.heap.size + 1, o, none⟩) (by first | omega | (simp; done) | (simp; omega))
    have l2_1 : w.heap.size + 1 < w2.heap.size := Nat.lt_of_lt_of_le (by first | omega | (simp; done) | (simp; omega)) (Below.size hb2)
    have c2_2 := fun o => Below.cell hb2 (p := ⟨w.heap.size + 1 + 1, o, none⟩) (by first | omega | (simp; done) | (simp; omega))
    have l2_2 : w.heap.size + 1 + 1 < w2.heap.size := Nat.lt_of_lt_of_le (by first | omega | (simp; done) | (simp; omega)) (Below.size hb2)
    go_wp2_with fail
    refine (Hc.out _).mono ?_
    rintro x w3 ⟨rfl, hb3⟩
    have c3_0 := fun o => Below.cell hb3 (p := ⟨w.heap.size, o, none⟩) (by first | omega | (simp; done) | (simp; omega))
    have l3_0 : w.heap.size < w3.heap.size := Nat.lt_of_lt_of_le (by first | omega | (simp; done) | (simp; omega)) (Below.size hb3)
    have c3_1 := fun o => Below.cell hb3 (p := ⟨w.heap.size + 1, o, none⟩) (by first | omega | (simp; done) | (simp; omega))
    have l3_1 : w.heap.size + 1 < w3.heap.size := Nat.lt_of_lt_of_le (by first | omega | (simp; done) | (simp; omega)) (Below.size hb3)
    have c3_2 := fun o => Below.cell hb3 (p := ⟨w.heap.size + 1 + 1, o, none⟩) (by first | omega | (simp; done) | (simp; omega))
    have l3_2 : w.heap.size + 1 + 1 < w3.heap.size := Nat.lt_of_lt_of_le (by first | omega | (simp; done) | (simp; omega)) (Below.size hb3)
    go_wp2_with fail
    refine (kfits_any _ _ _ [b, r, l, s] _ (rd4 (by simp [go_sem]) (by simp [go_sem]) (by simp [go_sem]) (by simp [go_sem])) rfl (by simp)).mono ?_
    rintro x w' ⟨rfl, rfl⟩
    rw [H1.out]
    go_wp2_with fail
    refine (Hw.out _).mono ?_
    rintro x w4 ⟨rfl, hb4⟩
    simp only [err2]
    have c4_0 := fun o => Below.cell hb4 (p := ⟨w.heap.size, o, none⟩) (by first | omega | (simp; done) | (simp; omega))
    have l4_0 : w.heap.size < w4.heap.size := Nat.lt_of_lt_of_le (by first | omega | (simp; done) | (simp; omega)) (Below.size hb4)
    have c4_1 := fun o => Below.cell hb4 (p := ⟨w.heap.size + 1, o, none⟩) (by first | omega | (simp; done) | (simp; omega))
    have l4_1 : w.heap.size + 1 < w4.heap.size := Nat.lt_of_lt_of_le (by first | omega | (simp; done) | (simp; omega)) (Below.size hb4)
    have c4_2 := fun o => Below.cell hb4 (p := ⟨w.heap.size + 1 + 1, o, none⟩) (by first | omega | (simp; done) | (simp; omega))
    have l4_2 : w.heap.size + 1 + 1 < w4.heap.size := Nat.lt_of_lt_of_le (by first | omega | (simp; done) | (simp; omega)) (Below.size hb4)
    have c4_3 := fun o => Below.cell hb4 (p := ⟨w3.heap.size, o, none⟩) (by first | omega | (simp; done) | (simp; omega))
    have l4_3 : w3.heap.size < w4.heap.size := Nat.lt_of_lt_of_le (by first | omega | (simp; done) | (simp; omega)) (Below.size hb4)
    go_wp2_with fail
    refine (kfits_any _ _ _ [l, s, l', s'] _ (rd4 (by simp [go_sem]) (by simp [go_sem]) (by simp [go_sem]) (by simp [go_sem])) rfl (by simp)).mono ?_
    rintro x w' ⟨rfl, rfl⟩
    rw [H2.out]
    go_wp2_with fail
    refine (Hk.out _).mono ?_
    rintro x w5 ⟨rfl, hb5⟩
    have c5_0 := fun o => Below.cell hb5 (p := ⟨w.heap.size, o, none⟩) (by first | omega | (simp; done) | (simp; omega))
    have l5_0 : w.heap.size < w5.heap.size := Nat.lt_of_lt_of_le (by first | omega | (simp; done) | (simp; omega)) (Below.size hb5)
    have c5_1 := fun o => Below.cell hb5 (p := ⟨w.heap.size + 1, o, none⟩) (by first | omega | (simp; done) | (simp; omega))
    have l5_1 : w.heap.size + 1 < w5.heap.size := Nat.lt_of_lt_of_le (by first | omega | (simp; done) | (simp; omega)) (Below.size hb5)
    have c5_2 := fun o => Below.cell hb5 (p := ⟨w.heap.size + 1 + 1, o, none⟩) (by first | omega | (simp; done) | (simp; omega))
    have l5_2 : w.heap.size + 1 + 1 < w5.heap.size := Nat.lt_of_lt_of_le (by first | omega | (simp; done) | (simp; omega)) (Below.size hb5)
    have c5_3 := fun o => Below.cell hb5 (p := ⟨w3.heap.size, o, none⟩) (by first | omega | (simp; done) | (simp; omega))
    have l5_3 : w3.heap.size < w5.heap.size := Nat.lt_of_lt_of_le (by first | omega | (simp; done) | (simp; omega)) (Below.size hb5)
    go_wp2_with fail
    go_ret
    exact ⟨rfl, (by repeat (first | exact Below.refl _ _ | assumption | refine Below.drew ?_ | refine below_drewN ?_ _ | refine Below.alloc ?_ (by first | omega | (simp; done) | (simp; omega)) _ | refine Below.setCell ?_ (by first | omega | (simp; done) | (simp; omega)) _ | refine Below.trans ?_ (Below.mono (by assumption) (by first | omega | (simp; done) | (simp; omega)))))⟩

set_option maxRecDepth 100000 in
set_option maxHeartbeats 2000000 in
theorem core_ok_bad (b r l s l' s' : Int) (o1 o2 : Bool) (d e k f kd : Int) (hd : d = kd) (he : e = 0) (hk : k = b + r * l) (hf : f = 0) (ho1 : o1 = true) (hkd : 0 ≤ kd) (hm0 : 0 ≤ r * l) (hm1 : r * l ≤ 1099511627776) (b0 : 0 ≤ b) (b1 : b ≤ 1048576) (ul us g : Int) (hul : ul = 0) (hus : us = 0) (hg : g = 2) (ho2 : o2 = false) (w : World)
    (Hd : Hid (∀ W, Calls Try.prog 27 #[.agg #[.int .i64 b, .int .i64 r], .agg #[.int .i64 l, .int .i64 s]] W fun x w' => x = .returned (.tuple #[.int .i64 d, .int .i64 e]) ∧ Below W.heap.size W w'))
    (Hb : Hid (∀ W, Calls Try.prog 28 #[.agg #[.int .i64 b, .int .i64 r], .agg #[.int .i64 l, .int .i64 s]] W fun x w' => x = .returned (.tuple #[.int .i64 k, .int .i64 f]) ∧ Below W.heap.size W w'))
    (Hc : Hid (∀ W, Calls Try.prog 29 #[.agg #[.int .i64 l, .int .i64 s], .agg #[.int .i64 l', .int .i64 s']] W fun x w' => x = .returned (.tuple #[.agg #[.int .i64 ul, .int .i64 us], .int .i64 g]) ∧ Below W.heap.size W w'))
    (Hw : Hid (∀ W, Calls Try.prog 31 #[.agg #[.int .i64 b, .int .i64 r], .agg #[.int .i64 l, .int .i64 s]] W fun x w' => x = .returned (.int .i64 (err2 o1)) ∧ Below W.heap.size W w'))
    (H1 : Hid ([b, r, l, s].all fit20 = o1)) (H2 : Hid ([l, s, l', s'].all fit20 = o2))
    (Hk : Hid (∀ W, Calls Try.prog 32 #[.agg #[.int .i64 b, .int .i64 r], .agg #[.int .i64 l, .int .i64 s]] W fun x w' => x = .returned (.int .i64 kd) ∧ Below W.heap.size W w')) :
    Calls Try.prog 6 #[.agg #[.int .i64 b, .int .i64 r], .agg #[.int .i64 l, .int .i64 s], .agg #[.int .i64 l', .int .i64 s']] w fun x w' => x = .returned (.bool true) ∧ Below w.heap.size w w' := by
  subst d e k f o1 ul us g o2
  have hkd' : ¬ kd < 0 := by omega
  go_enter Try.func6, Try.ntmps6
  go_wp2_with fail
  refine (Hd.out _).mono ?_
  rintro x w1 ⟨rfl, hb1⟩
  have c1_0 := fun o => Below.cell hb1 (p := ⟨w.heap.size, o, none⟩) (by first | omega | (simp; done) | (simp; omega))
  have l1_0 : w.heap.size < w1.heap.size := Nat.lt_of_lt_of_le (by first | omega | (simp; done) | (simp; omega)) (Below.size hb1)
  have c1_1 := fun o => Below.cell hb1 (p := ⟨w.heap.size + 1, o, none⟩) (by first | omega | (simp; done) | (simp; omega))
  have l1_1 : w.heap.size + 1 < w1.heap.size := Nat.lt_of_lt_of_le (by first | omega | (simp; done) | (simp; omega)) (Below.size hb1)
  have c1_2 := fun o => Below.cell hb1 (p := ⟨w.heap.size + 1 + 1, o, none⟩) (by first | omega | (simp; done) | (simp; omega))
  have l1_2 : w.heap.size + 1 + 1 < w1.heap.size := Nat.lt_of_lt_of_le (by first | omega | (simp; done) | (simp; omega)) (Below.size hb1)
  go_wp2_with fail
  refine (Hb.out _).mono ?_
  rintro x w2 ⟨rfl, hb2⟩
  have c2_0 := fun o => Below.cell hb2 (p := ⟨w.heap.size, o, none⟩) (by first | omega | (simp; done) | (simp; omega))
  have l2_0 : w.heap.size < w2.heap.size := Nat.lt_of_lt_of_le (by first | omega | (simp; done) | (simp; omega)) (Below.size hb2)
  have c2_1 := fun o => Below.cell hb2 (p := ⟨w.heap.size + 1, o, none⟩) (by first | omega | (simp; done) | (simp; omega))
  have l2_1 : w.heap.size + 1 < w2.heap.size := Nat.lt_of_lt_of_le (by first | omega | (simp; done) | (simp; omega)) (Below.size hb2)
  have c2_2 := fun o => Below.cell hb2 (p := ⟨w.heap.size + 1 + 1, o, none⟩) (by first | omega | (simp; done) | (simp; omega))
  have l2_2 : w.heap.size + 1 + 1 < w2.heap.size := Nat.lt_of_lt_of_le (by first | omega | (simp; done) | (simp; omega)) (Below.size hb2)
  go_wp2_with fail
  refine (Hc.out _).mono ?_
  rintro x w3 ⟨rfl, hb3⟩
  have c3_0 := fun o => Below.cell hb3 (p := ⟨w.heap.size, o, none⟩) (by first | omega | (simp; done) | (simp; omega))
  have l3_0 : w.heap.size < w3.heap.size := Nat.lt_of_lt_of_le (by first | omega | (simp; done) | (simp; omega)) (Below.size hb3)
  have c3_1 := fun o => Below.cell hb3 (p := ⟨w.heap.size + 1, o, none⟩) (by first | omega | (simp; done) | (simp; omega))
  have l3_1 : w.heap.size + 1 < w3.heap.size := Nat.lt_of_lt_of_le (by first | omega | (simp; done) | (simp; omega)) (Below.size hb3)
  have c3_2 := fun o => Below.cell hb3 (p := ⟨w.heap.size + 1 + 1, o, none⟩) (by first | omega | (simp; done) | (simp; omega))
  have l3_2 : w.heap.size + 1 + 1 < w3.heap.size := Nat.lt_of_lt_of_le (by first | omega | (simp; done) | (simp; omega)) (Below.size hb3)
  go_wp2_with fail
  refine (kfits_any _ _ _ [b, r, l, s] _ (rd4 (by simp [go_sem]) (by simp [go_sem]) (by simp [go_sem]) (by simp [go_sem])) rfl (by simp)).mono ?_
  rintro x w' ⟨rfl, rfl⟩
  rw [H1.out]
  go_wp2_with fail
  refine (Hw.out _).mono ?_
  rintro x w4 ⟨rfl, hb4⟩
  simp only [err2]
  have c4_0 := fun o => Below.cell hb4 (p := ⟨w.heap.size, o, none⟩) (by first | omega | (simp; done) | (simp; omega))
  have l4_0 : w.heap.size < w4.heap.size := Nat.lt_of_lt_of_le (by first | omega | (simp; done) | (simp; omega)) (Below.size hb4)
  have c4_1 := fun o => Below.cell hb4 (p := ⟨w.heap.size + 1, o, none⟩) (by first | omega | (simp; done) | (simp; omega))
  have l4_1 : w.heap.size + 1 < w4.heap.size := Nat.lt_of_lt_of_le (by first | omega | (simp; done) | (simp; omega)) (Below.size hb4)
  have c4_2 := fun o => Below.cell hb4 (p := ⟨w.heap.size + 1 + 1, o, none⟩) (by first | omega | (simp; done) | (simp; omega))
  have l4_2 : w.heap.size + 1 + 1 < w4.heap.size := Nat.lt_of_lt_of_le (by first | omega | (simp; done) | (simp; omega)) (Below.size hb4)
  have c4_3 := fun o => Below.cell hb4 (p := ⟨w3.heap.size, o, none⟩) (by first | omega | (simp; done) | (simp; omega))
  have l4_3 : w3.heap.size < w4.heap.size := Nat.lt_of_lt_of_le (by first | omega | (simp; done) | (simp; omega)) (Below.size hb4)
  go_wp2_with fail
  refine (kfits_any _ _ _ [l, s, l', s'] _ (rd4 (by simp [go_sem]) (by simp [go_sem]) (by simp [go_sem]) (by simp [go_sem])) rfl (by simp)).mono ?_
  rintro x w' ⟨rfl, rfl⟩
  rw [H2.out]
  go_wp2_with fail
  refine (Hk.out _).mono ?_
  rintro x w5 ⟨rfl, hb5⟩
  have c5_0 := fun o => Below.cell hb5 (p := ⟨w.heap.size, o, none⟩) (by first | omega | (simp; done) | (simp; omega))
  have l5_0 : w.heap.size < w5.heap.size := Nat.lt_of_lt_of_le (by first | omega | (simp; done) | (simp; omega)) (Below.size hb5)
  have c5_1 := fun o => Below.cell hb5 (p := ⟨w.heap.size + 1, o, none⟩) (by first | omega | (simp; done) | (simp; omega))
  have l5_1 : w.heap.size + 1 < w5.heap.size := Nat.lt_of_lt_of_le (by first | omega | (simp; done) | (simp; omega)) (Below.size hb5)
  have c5_2 := fun o => Below.cell hb5 (p := ⟨w.heap.size + 1 + 1, o, none⟩) (by first | omega | (simp; done) | (simp; omega))
  have l5_2 : w.heap.size + 1 + 1 < w5.heap.size := Nat.lt_of_lt_of_le (by first | omega | (simp; done) | (simp; omega)) (Below.size hb5)
  have c5_3 := fun o => Below.cell hb5 (p := ⟨w3.heap.size, o, none⟩) (by first | omega | (simp; done) | (simp; omega))
  have l5_3 : w3.heap.size < w5.heap.size := Nat.lt_of_lt_of_le (by first | omega | (simp; done) | (simp; omega)) (Below.size hb5)
  go_wp2_with fail
  go_ret
  exact ⟨rfl, (by repeat (first | exact Below.refl _ _ | assumption | refine Below.drew ?_ | refine below_drewN ?_ _ | refine Below.alloc ?_ (by first | omega | (simp; done) | (simp; omega)) _ | refine Below.setCell ?_ (by first | omega | (simp; done) | (simp; omega)) _ | refine Below.trans ?_ (Below.mono (by assumption) (by first | omega | (simp; done) | (simp; omega)))))⟩

set_option maxRecDepth 100000 in
set_option maxHeartbeats 2000000 in
theorem core_ok_full (b r l s l' s' : Int) (o1 o2 : Bool) (d e k f kd : Int) (hd : d = kd) (he : e = 0) (hk : k = b + r * l) (hf : f = 0) (ho1 : o1 = true) (hkd : 0 ≤ kd) (hm0 : 0 ≤ r * l) (hm1 : r * l ≤ 1099511627776) (b0 : 0 ≤ b) (b1 : b ≤ 1048576) (ul us g : Int) (hul : ul = 0) (hus : us = 0) (hg : g = 4) (ho2 : o2 = true) (hll : 1048576 < l + l') (l0 : 0 ≤ l) (l1 : l ≤ 1048576) (l2 : 0 ≤ l') (l3 : l' ≤ 1048576) (w : World)
    (Hd : Hid (∀ W, Calls Try.prog 27 #[.agg #[.int .i64 b, .int .i64 r], .agg #[.int .i64 l, .int .i64 s]] W fun x w' => x = .returned (.tuple #[.int .i64 d, .int .i64 e]) ∧ Below W.heap.size W w'))
    (Hb : Hid (∀ W, Calls Try.prog 28 #[.agg #[.int .i64 b, .int .i64 r], .agg #[.int .i64 l, .int .i64 s]] W fun x w' => x = .returned (.tuple #[.int .i64 k, .int .i64 f]) ∧ Below W.heap.size W w'))
    (Hc : Hid (∀ W, Calls Try.prog 29 #[.agg #[.int .i64 l, .int .i64 s], .agg #[.int .i64 l', .int .i64 s']] W fun x w' => x = .returned (.tuple #[.agg #[.int .i64 ul, .int .i64 us], .int .i64 g]) ∧ Below W.heap.size W w'))
    (Hw : Hid (∀ W, Calls Try.prog 31 #[.agg #[.int .i64 b, .int .i64 r], .agg #[.int .i64 l, .int .i64 s]] W fun x w' => x = .returned (.int .i64 (err2 o1)) ∧ Below W.heap.size W w'))
    (H1 : Hid ([b, r, l, s].all fit20 = o1)) (H2 : Hid ([l, s, l', s'].all fit20 = o2))
    (Hk : Hid (∀ W, Calls Try.prog 32 #[.agg #[.int .i64 b, .int .i64 r], .agg #[.int .i64 l, .int .i64 s]] W fun x w' => x = .returned (.int .i64 kd) ∧ Below W.heap.size W w')) :
    Calls Try.prog 6 #[.agg #[.int .i64 b, .int .i64 r], .agg #[.int .i64 l, .int .i64 s], .agg #[.int .i64 l', .int .i64 s']] w fun x w' => x = .returned (.bool true) ∧ Below w.heap.size w w' := by
  subst d e k f o1 ul us g o2
  have hkd' : ¬ kd < 0 := by omega
  go_enter Try.func6, Try.ntmps6
  go_wp2_with fail
  refine (Hd.out _).mono ?_
  rintro x w1 ⟨rfl, hb1⟩
  have c1_0 := fun o => Below.cell hb1 (p := ⟨w.heap.size, o, none⟩) (by first | omega | (simp; done) | (simp; omega))
  have l1_0 : w.heap.size < w1.heap.size := Nat.lt_of_lt_of_le (by first | omega | (simp; done) | (simp; omega)) (Below.size hb1)
  have c1_1 := fun o => Below.cell hb1 (p := ⟨w.heap.size + 1, o, none⟩) (by first | omega | (simp; done) | (simp; omega))
  have l1_1 : w.heap.size + 1 < w1.heap.size := Nat.lt_of_lt_of_le (by first | omega | (simp; done) | (simp; omega)) (Below.size hb1)
  have c1_2 := fun o => Below.cell hb1 (p := ⟨w.heap.size + 1 + 1, o, none⟩) (by first | omega | (simp; done) | (simp; omega))
  have l1_2 : w.heap.size + 1 + 1 < w1.heap.size := Nat.lt_of_lt_of_le (by first | omega | (simp; done) | (simp; omega)) (Below.size hb1)
  go_wp2_with fail
  refine (Hb.out _).mono ?_
  rintro x w2 ⟨rfl, hb2⟩
  have c2_0 := fun o => Below.cell hb2 (p := ⟨w.heap.size, o, none⟩) (by first | omega | (simp; done) | (simp; omega))
  have l2_0 : w.heap.size < w2.heap.size := Nat.lt_of_lt_of_le (by first | omega | (simp; done) | (simp; omega)) (Below.size hb2)
  have c2_1 := fun o => Below.cell hb2 (p := ⟨w.heap.size + 1, o, none⟩) (by first | omega | (simp; done) | (simp; omega))
  have l2_1 : w.heap.size + 1 < w2.heap.size := Nat.lt_of_lt_of_le (by first | omega | (simp; done) | (simp; omega)) (Below.size hb2)
  have c2_2 := fun o => Below.cell hb2 (p := ⟨w.heap.size + 1 + 1, o, none⟩) (by first | omega | (simp; done) | (simp; omega))
  have l2_2 : w.heap.size + 1 + 1 < w2.heap.size := Nat.lt_of_lt_of_le (by first | omega | (simp; done) | (simp; omega)) (Below.size hb2)
  go_wp2_with fail
  refine (Hc.out _).mono ?_
  rintro x w3 ⟨rfl, hb3⟩
  have c3_0 := fun o => Below.cell hb3 (p := ⟨w.heap.size, o, none⟩) (by first | omega | (simp; done) | (simp; omega))
  have l3_0 : w.heap.size < w3.heap.size := Nat.lt_of_lt_of_le (by first | omega | (simp; done) | (simp; omega)) (Below.size hb3)
  have c3_1 := fun o => Below.cell hb3 (p := ⟨w.heap.size + 1, o, none⟩) (by first | omega | (simp; done) | (simp; omega))
  have l3_1 : w.heap.size + 1 < w3.heap.size := Nat.lt_of_lt_of_le (by first | omega | (simp; done) | (simp; omega)) (Below.size hb3)
  have c3_2 := fun o => Below.cell hb3 (p := ⟨w.heap.size + 1 + 1, o, none⟩) (by first | omega | (simp; done) | (simp; omega))
  have l3_2 : w.heap.size + 1 + 1 < w3.heap.size := Nat.lt_of_lt_of_le (by first | omega | (simp; done) | (simp; omega)) (Below.size hb3)
  go_wp2_with fail
  refine (kfits_any _ _ _ [b, r, l, s] _ (rd4 (by simp [go_sem]) (by simp [go_sem]) (by simp [go_sem]) (by simp [go_sem])) rfl (by simp)).mono ?_
  rintro x w' ⟨rfl, rfl⟩
  rw [H1.out]
  go_wp2_with fail
  refine (Hw.out _).mono ?_
  rintro x w4 ⟨rfl, hb4⟩
  simp only [err2]
  have c4_0 := fun o => Below.cell hb4 (p := ⟨w.heap.size, o, none⟩) (by first | omega | (simp; done) | (simp; omega))
  have l4_0 : w.heap.size < w4.heap.size := Nat.lt_of_lt_of_le (by first | omega | (simp; done) | (simp; omega)) (Below.size hb4)
  have c4_1 := fun o => Below.cell hb4 (p := ⟨w.heap.size + 1, o, none⟩) (by first | omega | (simp; done) | (simp; omega))
  have l4_1 : w.heap.size + 1 < w4.heap.size := Nat.lt_of_lt_of_le (by first | omega | (simp; done) | (simp; omega)) (Below.size hb4)
  have c4_2 := fun o => Below.cell hb4 (p := ⟨w.heap.size + 1 + 1, o, none⟩) (by first | omega | (simp; done) | (simp; omega))
  have l4_2 : w.heap.size + 1 + 1 < w4.heap.size := Nat.lt_of_lt_of_le (by first | omega | (simp; done) | (simp; omega)) (Below.size hb4)
  have c4_3 := fun o => Below.cell hb4 (p := ⟨w3.heap.size, o, none⟩) (by first | omega | (simp; done) | (simp; omega))
  have l4_3 : w3.heap.size < w4.heap.size := Nat.lt_of_lt_of_le (by first | omega | (simp; done) | (simp; omega)) (Below.size hb4)
  go_wp2_with fail
  refine (kfits_any _ _ _ [l, s, l', s'] _ (rd4 (by simp [go_sem]) (by simp [go_sem]) (by simp [go_sem]) (by simp [go_sem])) rfl (by simp)).mono ?_
  rintro x w' ⟨rfl, rfl⟩
  rw [H2.out]
  go_wp2_with fail
  refine (Hk.out _).mono ?_
  rintro x w5 ⟨rfl, hb5⟩
  have c5_0 := fun o => Below.cell hb5 (p := ⟨w.heap.size, o, none⟩) (by first | omega | (simp; done) | (simp; omega))
  have l5_0 : w.heap.size < w5.heap.size := Nat.lt_of_lt_of_le (by first | omega | (simp; done) | (simp; omega)) (Below.size hb5)
  have c5_1 := fun o => Below.cell hb5 (p := ⟨w.heap.size + 1, o, none⟩) (by first | omega | (simp; done) | (simp; omega))
  have l5_1 : w.heap.size + 1 < w5.heap.size := Nat.lt_of_lt_of_le (by first | omega | (simp; done) | (simp; omega)) (Below.size hb5)
  have c5_2 := fun o => Below.cell hb5 (p := ⟨w.heap.size + 1 + 1, o, none⟩) (by first | omega | (simp; done) | (simp; omega))
  have l5_2 : w.heap.size + 1 + 1 < w5.heap.size := Nat.lt_of_lt_of_le (by first | omega | (simp; done) | (simp; omega)) (Below.size hb5)
  have c5_3 := fun o => Below.cell hb5 (p := ⟨w3.heap.size, o, none⟩) (by first | omega | (simp; done) | (simp; omega))
  have l5_3 : w3.heap.size < w5.heap.size := Nat.lt_of_lt_of_le (by first | omega | (simp; done) | (simp; omega)) (Below.size hb5)
  go_wp2_with fail
  go_ret
  exact ⟨rfl, (by repeat (first | exact Below.refl _ _ | assumption | refine Below.drew ?_ | refine below_drewN ?_ _ | refine Below.alloc ?_ (by first | omega | (simp; done) | (simp; omega)) _ | refine Below.setCell ?_ (by first | omega | (simp; done) | (simp; omega)) _ | refine Below.trans ?_ (Below.mono (by assumption) (by first | omega | (simp; done) | (simp; omega)))))⟩

set_option maxRecDepth 100000 in
set_option maxHeartbeats 2000000 in
theorem core_ok_ok (b r l s l' s' : Int) (o1 o2 : Bool) (d e k f kd : Int) (hd : d = kd) (he : e = 0) (hk : k = b + r * l) (hf : f = 0) (ho1 : o1 = true) (hkd : 0 ≤ kd) (hm0 : 0 ≤ r * l) (hm1 : r * l ≤ 1099511627776) (b0 : 0 ≤ b) (b1 : b ≤ 1048576) (ul us g : Int) (hul : ul = l + l') (hus : us = min s s') (hg : g = 0) (ho2 : o2 = true) (hll : l + l' ≤ 1048576) (l0 : 0 ≤ l) (l1 : l ≤ 1048576) (l2 : 0 ≤ l') (l3 : l' ≤ 1048576) (w : World)
    (Hd : Hid (∀ W, Calls Try.prog 27 #[.agg #[.int .i64 b, .int .i64 r], .agg #[.int .i64 l, .int .i64 s]] W fun x w' => x = .returned (.tuple #[.int .i64 d, .int .i64 e]) ∧ Below W.heap.size W w'))
    (Hb : Hid (∀ W, Calls Try.prog 28 #[.agg #[.int .i64 b, .int .i64 r], .agg #[.int .i64 l, .int .i64 s]] W fun x w' => x = .returned (.tuple #[.int .i64 k, .int .i64 f]) ∧ Below W.heap.size W w'))
    (Hc : Hid (∀ W, Calls Try.prog 29 #[.agg #[.int .i64 l, .int .i64 s], .agg #[.int .i64 l', .int .i64 s']] W fun x w' => x = .returned (.tuple #[.agg #[.int .i64 ul, .int .i64 us], .int .i64 g]) ∧ Below W.heap.size W w'))
    (Hw : Hid (∀ W, Calls Try.prog 31 #[.agg #[.int .i64 b, .int .i64 r], .agg #[.int .i64 l, .int .i64 s]] W fun x w' => x = .returned (.int .i64 (err2 o1)) ∧ Below W.heap.size W w'))
    (H1 : Hid ([b, r, l, s].all fit20 = o1)) (H2 : Hid ([l, s, l', s'].all fit20 = o2))
    (Hk : Hid (∀ W, Calls Try.prog 32 #[.agg #[.int .i64 b, .int .i64 r], .agg #[.int .i64 l, .int .i64 s]] W fun x w' => x = .returned (.int .i64 kd) ∧ Below W.heap.size W w')) :
    Calls Try.prog 6 #[.agg #[.int .i64 b, .int .i64 r], .agg #[.int .i64 l, .int .i64 s], .agg #[.int .i64 l', .int .i64 s']] w fun x w' => x = .returned (.bool true) ∧ Below w.heap.size w w' := by
  subst d e k f o1 ul us g o2
  have hkd' : ¬ kd < 0 := by omega
  by_cases hlt : s' < s
  · rw [Int.min_eq_right (by omega)] at Hc
    go_enter Try.func6, Try.ntmps6
    go_wp2_with fail
    refine (Hd.out _).mono ?_
    rintro x w1 ⟨rfl, hb1⟩
    have c1_0 := fun o => Below.cell hb1 (p := ⟨w.heap.size, o, none⟩) (by first | omega | (simp; done) | (simp; omega))
    have l1_0 : w.heap.size < w1.heap.size := Nat.lt_of_lt_of_le (by first | omega | (simp; done) | (simp; omega)) (Below.size hb1)
    have c1_1 := fun o => Below.cell hb1 (p := ⟨w.heap.size + 1, o, none⟩) (by first | omega | (simp; done) | (simp; omega))
    have l1_1 : w.heap.size + 1 < w1.heap.size := Nat.lt_of_lt_of_le (by first | omega | (simp; done) | (simp; omega)) (Below.size hb1)
    have c1_2 := fun o => Below.cell hb1 (p := ⟨w.heap.size + 1 + 1, o, none⟩) (by first | omega | (simp; done) | (simp; omega))
    have l1_2 : w.heap.size + 1 + 1 < w1.heap.size := Nat.lt_of_lt_of_le (by first | omega | (simp; done) | (simp; omega)) (Below.size hb1)
    go_wp2_with fail
    refine (Hb.out _).mono ?_
    rintro x w2 ⟨rfl, hb2⟩
    have c2_0 := fun o => Below.cell hb2 (p := ⟨w.heap.size, o, none⟩) (by first | omega | (simp; done) | (simp; omega))
    have l2_0 : w.heap.size < w2.heap.size := Nat.lt_of_lt_of_le (by first | omega | (simp; done) | (simp; omega)) (Below.size hb2)
    have c2_1 := fun o => Below.cell hb2 (p := ⟨w.heap.size + 1, o, none⟩) (by first | omega | (simp; done) | (simp; omega))
    have l2_1 : w.heap.size + 1 < w2.heap.size := Nat.lt_of_lt_of_le (by first | omega | (simp; done) | (simp; omega)) (Below.size hb2)
    have c2_2 := fun o => Below.cell hb2 (p := ⟨w.heap.size + 1 + 1, o, none⟩) (by first | omega | (simp; done) | (simp; omega))
    have l2_2 : w.heap.size + 1 + 1 < w2.heap.size := Nat.lt_of_lt_of_le (by first | omega | (simp; done) | (simp; omega)) (Below.size hb2)
    go_wp2_with fail
    refine (Hc.out _).mono ?_
    rintro x w3 ⟨rfl, hb3⟩
    have c3_0 := fun o => Below.cell hb3 (p := ⟨w.heap.size, o, none⟩) (by first | omega | (simp; done) | (simp; omega))
    have l3_0 : w.heap.size < w3.heap.size := Nat.lt_of_lt_of_le (by first | omega | (simp; done) | (simp; omega)) (Below.size hb3)
    have c3_1 := fun o => Below.cell hb3 (p := ⟨w.heap.size + 1, o, none⟩) (by first | omega | (simp; done) | (simp; omega))
    have l3_1 : w.heap.size + 1 < w3.heap.size := Nat.lt_of_lt_of_le (by first | omega | (simp; done) | (simp; omega)) (Below.size hb3)
    have c3_2 := fun o => Below.cell hb3 (p := ⟨w.heap.size + 1 + 1, o, none⟩) (by first | omega | (simp; done) | (simp; omega))
    have l3_2 : w.heap.size + 1 + 1 < w3.heap.size := Nat.lt_of_lt_of_le (by first | omega | (simp; done) | (simp; omega)) (Below.size hb3)
    go_wp2_with fail
    refine (kfits_any _ _ _ [b, r, l, s] _ (rd4 (by simp [go_sem]) (by simp [go_sem]) (by simp [go_sem]) (by simp [go_sem])) rfl (by simp)).mono ?_
    rintro x w' ⟨rfl, rfl⟩
    rw [H1.out]
    go_wp2_with fail
    refine (Hw.out _).mono ?_
    rintro x w4 ⟨rfl, hb4⟩
    simp only [err2]
    have c4_0 := fun o => Below.cell hb4 (p := ⟨w.heap.size, o, none⟩) (by first | omega | (simp; done) | (simp; omega))
    have l4_0 : w.heap.size < w4.heap.size := Nat.lt_of_lt_of_le (by first | omega | (simp; done) | (simp; omega)) (Below.size hb4)
    have c4_1 := fun o => Below.cell hb4 (p := ⟨w.heap.size + 1, o, none⟩) (by first | omega | (simp; done) | (simp; omega))
    have l4_1 : w.heap.size + 1 < w4.heap.size := Nat.lt_of_lt_of_le (by first | omega | (simp; done) | (simp; omega)) (Below.size hb4)
    have c4_2 := fun o => Below.cell hb4 (p := ⟨w.heap.size + 1 + 1, o, none⟩) (by first | omega | (simp; done) | (simp; omega))
    have l4_2 : w.heap.size + 1 + 1 < w4.heap.size := Nat.lt_of_lt_of_le (by first | omega | (simp; done) | (simp; omega)) (Below.size hb4)
    have c4_3 := fun o => Below.cell hb4 (p := ⟨w3.heap.size, o, none⟩) (by first | omega | (simp; done) | (simp; omega))
    have l4_3 : w3.heap.size < w4.heap.size := Nat.lt_of_lt_of_le (by first | omega | (simp; done) | (simp; omega)) (Below.size hb4)
    go_wp2_with fail
    refine (kfits_any _ _ _ [l, s, l', s'] _ (rd4 (by simp [go_sem]) (by simp [go_sem]) (by simp [go_sem]) (by simp [go_sem])) rfl (by simp)).mono ?_
    rintro x w' ⟨rfl, rfl⟩
    rw [H2.out]
    go_wp2_with fail
    refine (Hk.out _).mono ?_
    rintro x w5 ⟨rfl, hb5⟩
    have c5_0 := fun o => Below.cell hb5 (p := ⟨w.heap.size, o, none⟩) (by first | omega | (simp; done) | (simp; omega))
    have l5_0 : w.heap.size < w5.heap.size := Nat.lt_of_lt_of_le (by first | omega | (simp; done) | (simp; omega)) (Below.size hb5)
    have c5_1 := fun o => Below.cell hb5 (p := ⟨w.heap.size + 1, o, none⟩) (by first | omega | (simp; done) | (simp; omega))
    have l5_1 : w.heap.size + 1 < w5.heap.size := Nat.lt_of_lt_of_le (by first | omega | (simp; done) | (simp; omega)) (Below.size hb5)
    have c5_2 := fun o => Below.cell hb5 (p := ⟨w.heap.size + 1 + 1, o, none⟩) (by first | omega | (simp; done) | (simp; omega))
    have l5_2 : w.heap.size + 1 + 1 < w5.heap.size := Nat.lt_of_lt_of_le (by first | omega | (simp; done) | (simp; omega)) (Below.size hb5)
    have c5_3 := fun o => Below.cell hb5 (p := ⟨w3.heap.size, o, none⟩) (by first | omega | (simp; done) | (simp; omega))
    have l5_3 : w3.heap.size < w5.heap.size := Nat.lt_of_lt_of_le (by first | omega | (simp; done) | (simp; omega)) (Below.size hb5)
    go_wp2_with fail
    go_ret
    exact ⟨rfl, (by repeat (first | exact Below.refl _ _ | assumption | refine Below.drew ?_ | refine below_drewN ?_ _ | refine Below.alloc ?_ (by first | omega | (simp; done) | (simp; omega)) _ | refine Below.setCell ?_ (by first | omega | (simp; done) | (simp; omega)) _ | refine Below.trans ?_ (Below.mono (by assumption) (by first | omega | (simp; done) | (simp; omega)))))⟩
  · rw [Int.min_eq_left (by omega)] at Hc
    go_enter Try.func6, Try.ntmps6
    go_wp2_with fail
    refine (Hd.out _).mono ?_
    rintro x w1 ⟨rfl, hb1⟩
    have c1_0 := fun o => Below.cell hb1 (p := ⟨w.heap.size, o, none⟩) (by first | omega | (simp; done) | (simp; omega))
    have l1_0 : w.heap.size < w1.heap.size := Nat.lt_of_lt_of_le (by first | omega | (simp; done) | (simp; omega)) (Below.size hb1)
    have c1_1 := fun o => Below.cell hb1 (p := ⟨w.heap.size + 1, o, none⟩) (by first | omega | (simp; done) | (simp; omega))
    have l1_1 : w.heap.size + 1 < w1.heap.size := Nat.lt_of_lt_of_le (by first | omega | (simp; done) | (simp; omega)) (Below.size hb1)
    have c1_2 := fun o => Below.cell hb1 (p := ⟨w.heap.size + 1 + 1, o, none⟩) (by first | omega | (simp; done) | (simp; omega))
    have l1_2 : w.heap.size + 1 + 1 < w1.heap.size := Nat.lt_of_lt_of_le (by first | omega | (simp; done) | (simp; omega)) (Below.size hb1)
    go_wp2_with fail
    refine (Hb.out _).mono ?_
    rintro x w2 ⟨rfl, hb2⟩
    have c2_0 := fun o => Below.cell hb2 (p := ⟨w.heap.size, o, none⟩) (by first | omega | (simp; done) | (simp; omega))
    have l2_0 : w.heap.size < w2.heap.size := Nat.lt_of_lt_of_le (by first | omega | (simp; done) | (simp; omega)) (Below.size hb2)
    have c2_1 := fun o => Below.cell hb2 (p := ⟨w.heap.size + 1, o, none⟩) (by first | omega | (simp; done) | (simp; omega))
    have l2_1 : w.heap.size + 1 < w2.heap.size := Nat.lt_of_lt_of_le (by first | omega | (simp; done) | (simp; omega)) (Below.size hb2)
    have c2_2 := fun o => Below.cell hb2 (p := ⟨w.heap.size + 1 + 1, o, none⟩) (by first | omega | (simp; done) | (simp; omega))
    have l2_2 : w.heap.size + 1 + 1 < w2.heap.size := Nat.lt_of_lt_of_le (by first | omega | (simp; done) | (simp; omega)) (Below.size hb2)
    go_wp2_with fail
    refine (Hc.out _).mono ?_
    rintro x w3 ⟨rfl, hb3⟩
    have c3_0 := fun o => Below.cell hb3 (p := ⟨w.heap.size, o, none⟩) (by first | omega | (simp; done) | (simp; omega))
    have l3_0 : w.heap.size < w3.heap.size := Nat.lt_of_lt_of_le (by first | omega | (simp; done) | (simp; omega)) (Below.size hb3)
    have c3_1 := fun o => Below.cell hb3 (p := ⟨w.heap.size + 1, o, none⟩) (by first | omega | (simp; done) | (simp; omega))
    have l3_1 : w.heap.size + 1 < w3.heap.size := Nat.lt_of_lt_of_le (by first | omega | (simp; done) | (simp; omega)) (Below.size hb3)
    have c3_2 := fun o => Below.cell hb3 (p := ⟨w.heap.size + 1 + 1, o, none⟩) (by first | omega | (simp; done) | (simp; omega))
    have l3_2 : w.heap.size + 1 + 1 < w3.heap.size := Nat.lt_of_lt_of_le (by first | omega | (simp; done) | (simp; omega)) (Below.size hb3)
    go_wp2_with fail
    refine (kfits_any _ _ _ [b, r, l, s] _ (rd4 (by simp [go_sem]) (by simp [go_sem]) (by simp [go_sem]) (by simp [go_sem])) rfl (by simp)).mono ?_
    rintro x w' ⟨rfl, rfl⟩
    rw [H1.out]
    go_wp2_with fail
    refine (Hw.out _).mono ?_
    rintro x w4 ⟨rfl, hb4⟩
    simp only [err2]
    have c4_0 := fun o => Below.cell hb4 (p := ⟨w.heap.size, o, none⟩) (by first | omega | (simp; done) | (simp; omega))
    have l4_0 : w.heap.size < w4.heap.size := Nat.lt_of_lt_of_le (by first | omega | (simp; done) | (simp; omega)) (Below.size hb4)
    have c4_1 := fun o => Below.cell hb4 (p := ⟨w.heap.size + 1, o, none⟩) (by first | omega | (simp; done) | (simp; omega))
    have l4_1 : w.heap.size + 1 < w4.heap.size := Nat.lt_of_lt_of_le (by first | omega | (simp; done) | (simp; omega)) (Below.size hb4)
    have c4_2 := fun o => Below.cell hb4 (p := ⟨w.heap.size + 1 + 1, o, none⟩) (by first | omega | (simp; done) | (simp; omega))
    have l4_2 : w.heap.size + 1 + 1 < w4.heap.size := Nat.lt_of_lt_of_le (by first | omega | (simp; done) | (simp; omega)) (Below.size hb4)
    have c4_3 := fun o => Below.cell hb4 (p := ⟨w3.heap.size, o, none⟩) (by first | omega | (simp; done) | (simp; omega))
    have l4_3 : w3.heap.size < w4.heap.size := Nat.lt_of_lt_of_le (by first | omega | (simp; done) | (simp; omega)) (Below.size hb4)
    go_wp2_with fail
    refine (kfits_any _ _ _ [l, s, l', s'] _ (rd4 (by simp [go_sem]) (by simp [go_sem]) (by simp [go_sem]) (by simp [go_sem])) rfl (by simp)).mono ?_
    rintro x w' ⟨rfl, rfl⟩
    rw [H2.out]
    go_wp2_with fail
    refine (Hk.out _).mono ?_
    rintro x w5 ⟨rfl, hb5⟩
    have c5_0 := fun o => Below.cell hb5 (p := ⟨w.heap.size, o, none⟩) (by first | omega | (simp; done) | (simp; omega))
    have l5_0 : w.heap.size < w5.heap.size := Nat.lt_of_lt_of_le (by first | omega | (simp; done) | (simp; omega)) (Below.size hb5)
    have c5_1 := fun o => Below.cell hb5 (p := ⟨w.heap.size + 1, o, none⟩) (by first | omega | (simp; done) | (simp; omega))
    have l5_1 : w.heap.size + 1 < w5.heap.size := Nat.lt_of_lt_of_le (by first | omega | (simp; done) | (simp; omega)) (Below.size hb5)
    have c5_2 := fun o => Below.cell hb5 (p := ⟨w.heap.size + 1 + 1, o, none⟩) (by first | omega | (simp; done) | (simp; omega))
    have l5_2 : w.heap.size + 1 + 1 < w5.heap.size := Nat.lt_of_lt_of_le (by first | omega | (simp; done) | (simp; omega)) (Below.size hb5)
    have c5_3 := fun o => Below.cell hb5 (p := ⟨w3.heap.size, o, none⟩) (by first | omega | (simp; done) | (simp; omega))
    have l5_3 : w3.heap.size < w5.heap.size := Nat.lt_of_lt_of_le (by first | omega | (simp; done) | (simp; omega)) (Below.size hb5)
    go_wp2_with fail
    go_ret
    exact ⟨rfl, (by repeat (first | exact Below.refl _ _ | assumption | refine Below.drew ?_ | refine below_drewN ?_ _ | refine Below.alloc ?_ (by first | omega | (simp; done) | (simp; omega)) _ | refine Below.setCell ?_ (by first | omega | (simp; done) | (simp; omega)) _ | refine Below.trans ?_ (Below.mono (by assumption) (by first | omega | (simp; done) | (simp; omega)))))⟩

end Go.Proofs.Ytadjbgdblfblbaa.CurveBounds
