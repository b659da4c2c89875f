/- The walk of the law CurveBounds, its cases joined. -/
import Derived.Test.YtadjbgdblfblbaaCurveBoundsW
namespace Go.Proofs.Ytadjbgdblfblbaa.CurveBounds
open Go.RowKit

theorem walk (b r l s l' s' : Int) (w : World) :
    Calls Try.prog 6 #[.agg #[.int .i64 b, .int .i64 r], .agg #[.int .i64 l, .int .i64 s], .agg #[.int .i64 l', .int .i64 s']] w fun x w' => x = .returned (.bool true) ∧ Below w.heap.size w w' := by
  have Hw := Lib.hid (fun W => cwrong_any b r l s W)
  have H1 : Hid ([b, r, l, s].all fit20 = own4 b r l s) := Lib.hid (all4 b r l s)
  have H2 : Hid ([l, s, l', s'].all fit20 = (fit20 l && fit20 s && fit20 l' && fit20 s')) := Lib.hid (all4 l s l' s')
  cases ho : own4 b r l s
  · have Hd := Lib.hid (fun W => delay_bad b r l s W ho)
    have Hb := Lib.hid (fun W => backlog_err b r l s 2 W rfl Hd.out)
    rw [ho] at Hw H1
    cases hc : (fit20 l && fit20 s && fit20 l' && fit20 s')
    · rw [hc] at H2
      exact core_bad_bad b r l s l' s' _ _ 0 2 0 2 0 rfl rfl rfl rfl rfl 0 0 2 rfl rfl rfl rfl w Hd Hb (Lib.hid (fun W => chain_bad l s l' s' W hc)) Hw H1 H2
    · rw [hc] at H2
      have hc' := hc
      simp only [Bool.and_eq_true] at hc'
      obtain ⟨⟨⟨h3, h4⟩, h5⟩, h6⟩ := hc'
      obtain ⟨l0, l1⟩ := fit20_true h3
      obtain ⟨l2, l3⟩ := fit20_true h5
      by_cases hll : 1048576 < l + l'
      · exact core_bad_full b r l s l' s' _ _ 0 2 0 2 0 rfl rfl rfl rfl rfl 0 0 4 rfl rfl rfl rfl hll l0 l1 l2 l3 w Hd Hb (Lib.hid (fun W => chain_full l s l' s' W hc hll)) Hw H1 H2
      · exact core_bad_ok b r l s l' s' _ _ 0 2 0 2 0 rfl rfl rfl rfl rfl _ _ 0 rfl rfl rfl rfl (by omega) l0 l1 l2 l3 w Hd Hb (Lib.hid (fun W => chain_ok l s l' s' W hc (by omega))) Hw H1 H2
  · rw [ho] at Hw H1
    have ho' := ho
    simp only [own4, Bool.and_eq_true] at ho'
    obtain ⟨⟨⟨g3, g4⟩, g5⟩, g6⟩ := ho'
    obtain ⟨b0, b1⟩ := fit20_true g3
    obtain ⟨r0, r1⟩ := fit20_true g4
    obtain ⟨ll0, ll1⟩ := fit20_true g5
    obtain ⟨s0, s1⟩ := fit20_true g6
    have hm0 : 0 ≤ r * l := Int.mul_nonneg r0 ll0
    have hm1 : r * l ≤ 1048576 * 1048576 := Int.mul_le_mul r1 ll1 ll0 (by omega)
    have key : (∃ d, 0 ≤ d ∧ (∀ W, Calls Try.prog 27 #[.agg #[.int .i64 b, .int .i64 r], .agg #[.int .i64 l, .int .i64 s]] W fun x w' => x = .returned (.tuple #[.int .i64 d, .int .i64 0]) ∧ Below W.heap.size W w') ∧
        (∀ W, Calls Try.prog 32 #[.agg #[.int .i64 b, .int .i64 r], .agg #[.int .i64 l, .int .i64 s]] W fun x w' => x = .returned (.int .i64 d) ∧ Below W.heap.size W w')) ∨
        ((∀ W, Calls Try.prog 27 #[.agg #[.int .i64 b, .int .i64 r], .agg #[.int .i64 l, .int .i64 s]] W fun x w' => x = .returned (.tuple #[.int .i64 0, .int .i64 3]) ∧ Below W.heap.size W w') ∧
        (∀ W, Calls Try.prog 32 #[.agg #[.int .i64 b, .int .i64 r], .agg #[.int .i64 l, .int .i64 s]] W fun x w' => x = .returned (.int .i64 (-1)) ∧ Below W.heap.size W w')) := by
      by_cases hn : b + r = 0
      · left
        obtain rfl : b = 0 := by omega
        obtain rfl : r = 0 := by omega
        exact ⟨0, by omega, fun W => delay_zero 0 0 l s W ho rfl, fun W => kdelay_zero l s W⟩
      · by_cases hrs : s < r ∨ s = 0
        · right
          exact ⟨fun W => delay_none b r l s W ho hn hrs, fun W => kdelay_none b r l s W hn ⟨b0, r0, s0⟩ hrs⟩
        · left
          have e : l + (b + r + s - 1) / s - 1 = l + (b + r - 1) / s := by
            rw [show b + r + s - 1 = (b + r - 1) + 1 * s from by omega, Int.add_mul_ediv_right _ _ (by omega)]
            omega
          have hnn : 0 ≤ (b + r - 1) / s := Int.ediv_nonneg (by omega) (by omega)
          refine ⟨l + (b + r - 1) / s, by omega, fun W => ?_, fun W => kdelay_ok b r l s W ho hn (by omega) (by omega)⟩
          rw [← e]
          exact delay_ok b r l s W ho hn (by omega) (by omega)
    rcases key with ⟨d, hd, k1, k2⟩ | ⟨k1, k2⟩
    · have Hd := Lib.hid k1
      have Hb := Lib.hid (fun W => backlog_ok b r l s d W ho Hd.out)
      have Hk := Lib.hid k2
      cases hc : (fit20 l && fit20 s && fit20 l' && fit20 s')
      · rw [hc] at H2
        exact core_ok_bad b r l s l' s' _ _ d 0 _ 0 d rfl rfl rfl rfl rfl hd hm0 (by omega) b0 b1 0 0 2 rfl rfl rfl rfl w Hd Hb (Lib.hid (fun W => chain_bad l s l' s' W hc)) Hw H1 H2 Hk
      · rw [hc] at H2
        have hc' := hc
        simp only [Bool.and_eq_true] at hc'
        obtain ⟨⟨⟨h3, h4⟩, h5⟩, h6⟩ := hc'
        obtain ⟨l0, l1⟩ := fit20_true h3
        obtain ⟨l2, l3⟩ := fit20_true h5
        by_cases hll : 1048576 < l + l'
        · exact core_ok_full b r l s l' s' _ _ d 0 _ 0 d rfl rfl rfl rfl rfl hd hm0 (by omega) b0 b1 0 0 4 rfl rfl rfl rfl hll l0 l1 l2 l3 w Hd Hb (Lib.hid (fun W => chain_full l s l' s' W hc hll)) Hw H1 H2 Hk
        · exact core_ok_ok b r l s l' s' _ _ d 0 _ 0 d rfl rfl rfl rfl rfl hd hm0 (by omega) b0 b1 _ _ 0 rfl rfl rfl rfl (by omega) l0 l1 l2 l3 w Hd Hb (Lib.hid (fun W => chain_ok l s l' s' W hc (by omega))) Hw H1 H2 Hk
    · have Hd := Lib.hid k1
      have Hb := Lib.hid (fun W => backlog_err b r l s 3 W rfl Hd.out)
      have Hk := Lib.hid k2
      cases hc : (fit20 l && fit20 s && fit20 l' && fit20 s')
      · rw [hc] at H2
        exact core_none_bad b r l s l' s' _ _ 0 3 0 3 (-1) rfl rfl rfl rfl rfl rfl 0 0 2 rfl rfl rfl rfl w Hd Hb (Lib.hid (fun W => chain_bad l s l' s' W hc)) Hw H1 H2 Hk
      · rw [hc] at H2
        have hc' := hc
        simp only [Bool.and_eq_true] at hc'
        obtain ⟨⟨⟨h3, h4⟩, h5⟩, h6⟩ := hc'
        obtain ⟨l0, l1⟩ := fit20_true h3
        obtain ⟨l2, l3⟩ := fit20_true h5
        by_cases hll : 1048576 < l + l'
        · exact core_none_full b r l s l' s' _ _ 0 3 0 3 (-1) rfl rfl rfl rfl rfl rfl 0 0 4 rfl rfl rfl rfl hll l0 l1 l2 l3 w Hd Hb (Lib.hid (fun W => chain_full l s l' s' W hc hll)) Hw H1 H2 Hk
        · exact core_none_ok b r l s l' s' _ _ 0 3 0 3 (-1) rfl rfl rfl rfl rfl rfl _ _ 0 rfl rfl rfl rfl (by omega) l0 l1 l2 l3 w Hd Hb (Lib.hid (fun W => chain_ok l s l' s' W hc (by omega))) Hw H1 H2 Hk

end Go.Proofs.Ytadjbgdblfblbaa.CurveBounds
