/- Walk: weirhouseref.HStep. -/
import Derived.Test.YtlmnlffbbbcodaaRingB1
import Derived.StillTailTactics
import Derived.Deep.Cut
namespace Go.Proofs.Ytlmnlffbbbcodaa.Ring
open Go.RowKit Go.Proofs.Ytlmnlffbbbcodaa.Big

set_option maxRecDepth 100000 in
set_option maxHeartbeats 2000000 in
theorem hstep_out (A : Option Addr) (n c : Nat) (zs : List Int) (most mb drops v : Int) (w : World) (hr : RdI .i64 w A zs) (hn : zs.length = n) (hm : n * 8 ≤ 140737488355328) (h : right zs most mb drops = true) (h0 : 0 < n) :
    Calls Try.prog 92 #[.agg #[.slice A n c, (.int .i64 most), (.int .i64 mb), (.int .i64 drops)], .agg #[(.int .i64 2), (.int .i64 v)]] w fun e w' => StepR most mb (drops) (zs.headD 0) (zs.tail) w e w' := by
  obtain ⟨⟨⟨m0, m1⟩, ⟨m2, m3⟩, ⟨m4, m5⟩, m6⟩, hall, t0, t1⟩ := right_parts h
  rw [hn] at m6
  have HR : Hid (∀ W, Below w.heap.size w W → Calls Try.prog 91 #[.agg #[.slice A n c, (.int .i64 most), (.int .i64 mb), (.int .i64 drops)]] W fun e w' => e = .returned (.bool true) ∧ Below W.heap.size W w') := Lib.hid fun W hW => h ▸ hright_any A n c zs most mb drops W (hr.below hW) hn (by omega)
  have HBs : Hid (∀ (W0 : World) (i : Since W0), Below w.heap.size w W0 → Calls Try.prog 115 #[.agg #[.slice A n c, (.int .i64 most), (.int .i64 mb), (.int .i64 drops)]] i.val fun e w' => e = .returned (.int .i64 (tot zs)) ∧ Below i.val.heap.size i.val w') := Lib.hid fun W0 i hw => hbytes_tot hall ▸ hbytes_any A n c zs most mb drops i.val (hr.below (hw.trans (i.property.mono hw.size))) hn (by omega)
  have Hr := Lib.hid hr
  have Hn := Lib.hid hn
  clear hr hn h hall
  go_enter Try.func92, Try.ntmps92
  go_wp2_with ((with_reducible refine wpList_copyO ?_); refine ⟨3, .i64, 8, w.heap.size + 4, _, _, _, _, zs, Try.underlying23, infoI8, by decide, ?_, ?_, ?_, rfl, rfl, RdI.below Hr.out (by repeat (first | (with_reducible exact Below.refl _ _) | (with_reducible assumption) | (with_reducible refine Below.drew ?_) | (with_reducible refine below_drewN ?_ _) | ((with_reducible refine Below.setCell ?_ ?_ _); rotate_left; (next => first | omega | exact Nat.le_refl _ | (refine Below.size (B := ?_) ?_; rotate_left; assumption) | (simp; done) | (simp; omega))) | ((with_reducible refine Below.alloc ?_ ?_ _); rotate_left; (next => first | omega | exact Nat.le_refl _ | (refine Below.size (B := ?_) ?_; rotate_left; assumption) | (simp; done) | (simp; omega))) | ((with_reducible refine Below.trans (b := ?_) ?_ (Below.mono (B := ?_) ?_ ?_)); rotate_left 3; (next => (with_reducible assumption)); (next => first | omega | exact Nat.le_refl _ | (refine Below.size (B := ?_) ?_; rotate_left; assumption) | (simp; done) | (simp; omega))) | exact Below.refl _ _ | assumption | refine Below.drew ?_ | refine below_drewN ?_ _ | refine Below.alloc ?_ (by first | omega | exact Below.size (by assumption) | (simp; done) | (simp; omega)) _ | refine Below.setCell ?_ (by first | omega | exact Below.size (by assumption) | (simp; done) | (simp; omega)) _ | refine Below.trans ?_ (Below.mono (by assumption) (by first | omega | exact Below.size (by assumption) | (simp; done) | (simp; omega))))), Hn.out.symm, hm, ?_⟩; rotate_left; rotate_left; rotate_left; intro v1 w1 ho hb1; obtain ⟨A', c', rfl, hlc, _, _⟩ := ho.form; have Ho := Lib.hid ho; clear ho; rw [Hn.out] at hlc Ho ⊢; have c1_0 := fun o => Below.cell hb1 (p := ⟨w.heap.size, o, none⟩) (by first | omega | exact Below.size (by assumption) | (simp; done) | (simp; omega)); have l1_0 : w.heap.size < w1.heap.size := Nat.lt_of_lt_of_le (by first | omega | exact Below.size (by assumption) | (simp; done) | (simp; omega)) (Below.size hb1); have c1_1 := fun o => Below.cell hb1 (p := ⟨w.heap.size + 1, o, none⟩) (by first | omega | exact Below.size (by assumption) | (simp; done) | (simp; omega)); have l1_1 : w.heap.size + 1 < w1.heap.size := Nat.lt_of_lt_of_le (by first | omega | exact Below.size (by assumption) | (simp; done) | (simp; omega)) (Below.size hb1); have c1_2 := fun o => Below.cell hb1 (p := ⟨w.heap.size + 1 + 1, o, none⟩) (by first | omega | exact Below.size (by assumption) | (simp; done) | (simp; omega)); have f1_2 := fun o => Below.frozen hb1 (p := ⟨w.heap.size + 1 + 1, o, none⟩) (by first | omega | exact Below.size (by assumption) | (simp; done) | (simp; omega)); have l1_2 : w.heap.size + 1 + 1 < w1.heap.size := Nat.lt_of_lt_of_le (by first | omega | exact Below.size (by assumption) | (simp; done) | (simp; omega)) (Below.size hb1); have c1_3 := fun o => Below.cell hb1 (p := ⟨w.heap.size + 1 + 1 + 1, o, none⟩) (by first | omega | exact Below.size (by assumption) | (simp; done) | (simp; omega)); have f1_3 := fun o => Below.frozen hb1 (p := ⟨w.heap.size + 1 + 1 + 1, o, none⟩) (by first | omega | exact Below.size (by assumption) | (simp; done) | (simp; omega)); have l1_3 : w.heap.size + 1 + 1 + 1 < w1.heap.size := Nat.lt_of_lt_of_le (by first | omega | exact Below.size (by assumption) | (simp; done) | (simp; omega)) (Below.size hb1); have hB1 : Below w.heap.size w w1 := Below.trans (by repeat (first | (with_reducible exact Below.refl _ _) | (with_reducible assumption) | (with_reducible refine Below.drew ?_) | (with_reducible refine below_drewN ?_ _) | ((with_reducible refine Below.setCell ?_ ?_ _); rotate_left; (next => first | omega | exact Nat.le_refl _ | (refine Below.size (B := ?_) ?_; rotate_left; assumption) | (simp; done) | (simp; omega))) | ((with_reducible refine Below.alloc ?_ ?_ _); rotate_left; (next => first | omega | exact Nat.le_refl _ | (refine Below.size (B := ?_) ?_; rotate_left; assumption) | (simp; done) | (simp; omega))) | ((with_reducible refine Below.trans (b := ?_) ?_ (Below.mono (B := ?_) ?_ ?_)); rotate_left 3; (next => (with_reducible assumption)); (next => first | omega | exact Nat.le_refl _ | (refine Below.size (B := ?_) ?_; rotate_left; assumption) | (simp; done) | (simp; omega))) | exact Below.refl _ _ | assumption | refine Below.drew ?_ | refine below_drewN ?_ _ | refine Below.alloc ?_ (by first | omega | exact Below.size (by assumption) | (simp; done) | (simp; omega)) _ | refine Below.setCell ?_ (by first | omega | exact Below.size (by assumption) | (simp; done) | (simp; omega)) _ | refine Below.trans ?_ (Below.mono (by assumption) (by first | omega | exact Below.size (by assumption) | (simp; done) | (simp; omega))))) (hb1.mono (by simp; omega)); clear hb1; go_upto_region 4 with (fail))
  case refine_1 => simp
  case refine_2 => omega
  case refine_3 => exact top4' _ _ _ _ _ _
  generalize hW : w1.setCell _ _ = W3
  have HW := Lib.hid hW
  clear hW
  have k1 : w.heap.size + 3 < w1.heap.size := l1_3
  have q0 : ∀ o, W3.cell? ⟨w.heap.size, o, none⟩ = (#[.slice A n c, (.int .i64 most), (.int .i64 mb), (.int .i64 drops)] : Array Value)[o]? := fun o => by
    rw [← HW.out, World.cell?_setCell_other _ _ _ _ (by simp), c1_0]; simp [go_sem]
  have e0 : ∀ o, W3.cell? ⟨w.heap.size + 1, o, none⟩ = (#[(.int .i64 2), (.int .i64 v)] : Array Value)[o]? := fun o => by
    rw [← HW.out, World.cell?_setCell_other _ _ _ _ (by simp), c1_1]; simp [go_sem]
  have r0 : ∀ o, W3.cell? ⟨w.heap.size + 1 + 1, o, none⟩ = (#[.slice none 0 0, (.int .i64 0), (.int .i64 0), (.int .i64 0)] : Array Value)[o]? := fun o => by
    rw [← HW.out, World.cell?_setCell_other _ _ _ _ (by simp), c1_2]; simp [go_sem]
  have r1 : ∀ o, W3.frozen? ⟨w.heap.size + 1 + 1, o, none⟩ = false := fun o => by rw [← HW.out, World.frozen?_setCell, f1_2]; simp [go_sem]
  have x0 : W3.cell? ⟨w.heap.size + 1 + 1 + 1, 0, none⟩ = some (.slice A' n c') := by
    rw [← HW.out]
    exact World.cell?_setCell_same _ _ _ (show w1.cell? ⟨w.heap.size + 1 + 1 + 1, 0, none⟩ = some (.slice A n c) from by rw [c1_3]; simp [go_sem])
  have x1 : W3.cell? ⟨w.heap.size + 1 + 1 + 1, 1, none⟩ = some (.int .i64 most) := by rw [← HW.out, World.cell?_setCell_other _ _ _ _ (by simp), c1_3]; simp [go_sem]
  have x2 : W3.cell? ⟨w.heap.size + 1 + 1 + 1, 2, none⟩ = some (.int .i64 mb) := by rw [← HW.out, World.cell?_setCell_other _ _ _ _ (by simp), c1_3]; simp [go_sem]
  have x3 : W3.cell? ⟨w.heap.size + 1 + 1 + 1, 3, none⟩ = some (.int .i64 drops) := by rw [← HW.out, World.cell?_setCell_other _ _ _ _ (by simp), c1_3]; simp [go_sem]
  have x4 : ∀ o, W3.frozen? ⟨w.heap.size + 1 + 1 + 1, o, none⟩ = false := fun o => by rw [← HW.out, World.frozen?_setCell, f1_3]; simp [go_sem]
  have hB3 : Below w.heap.size w W3 := by rw [← HW.out]; exact hB1.setCell (by simp only; omega) _
  have k3 : W3.heap.size = w1.heap.size := by rw [← HW.out]; simp [World.setCell]
  have Ho3 : Hid (OwnI W3 (w.heap.size + 4) 3 .i64 (.slice A' n c') zs) := Lib.hid (by
    rw [← HW.out]
    exact OwnI.upd (b := w.heap.size + 1 + 1 + 1) (o := 0) (n := 4) Ho.out ((Upd.refl _ _ _ _).setCell (by omega) (by omega) _) (fun g hg => by have := (World.ownsRow.lt Ho.out g hg).1; omega))
  have k5 : w.heap.size + 1 + 1 + 1 < W3.heap.size := by omega
  clear HW Ho c1_0 c1_1 c1_2 c1_3 f1_2 f1_3 l1_0 l1_1 l1_2 l1_3 hB1
  have s0 : ∀ (i : Since W3) o, i.val.cell? ⟨w.heap.size, o, none⟩ = W3.cell? ⟨w.heap.size, o, none⟩ := fun i o => since_cell i (by omega) o
  have s1 : ∀ (i : Since W3) o, i.val.cell? ⟨w.heap.size + 1, o, none⟩ = W3.cell? ⟨w.heap.size + 1, o, none⟩ := fun i o => since_cell i (by omega) o
  have HSs := Lib.hid fun i => HBs.out W3 i hB3
  have hwn : IntKind.i64.wrap ((n : Int) + 1) = (n : Int) + 1 := IntWalk.i64_in _ (by omega)
  rcases Int.lt_or_le most ((n : Int) + 1) with hg | hg
  · have hd1 : decide ((n : Int) + 1 ≤ most) = false := decide_eq_false (by omega)
    go_wp2_with fail
    try dsimp only [List.append]
    refine wp_region_since W3 (Below.refl _ _) (by kernel_rfl) (by kernel_rfl) ?_
    repeat (go_big_quiet_step ((go_at_call 115; exact Calls.since (HSs.out _))))
    refine wpQuiet_nil ?_
    rintro w5 ⟨i5, hi5⟩
    have hb5 : Below W3.heap.size W3 w5 := hi5 ▸ i5.property
    clear hi5 i5 s0 s1 HSs HBs hwn hd1
    have c5_0 := fun o => Below.cell hb5 (p := ⟨w.heap.size, o, none⟩) (by first | omega | exact Below.size (by assumption) | (simp; done) | (simp; omega))
    have l5_0 : w.heap.size < w5.heap.size := Nat.lt_of_lt_of_le (by first | omega | exact Below.size (by assumption) | (simp; done) | (simp; omega)) (Below.size hb5)
    have c5_1 := fun o => Below.cell hb5 (p := ⟨w.heap.size + 1, o, none⟩) (by first | omega | exact Below.size (by assumption) | (simp; done) | (simp; omega))
    have l5_1 : w.heap.size + 1 < w5.heap.size := Nat.lt_of_lt_of_le (by first | omega | exact Below.size (by assumption) | (simp; done) | (simp; omega)) (Below.size hb5)
    have c5_2 := fun o => Below.cell hb5 (p := ⟨w.heap.size + 1 + 1, o, none⟩) (by first | omega | exact Below.size (by assumption) | (simp; done) | (simp; omega))
    have f5_2 := fun o => Below.frozen hb5 (p := ⟨w.heap.size + 1 + 1, o, none⟩) (by first | omega | exact Below.size (by assumption) | (simp; done) | (simp; omega))
    have l5_2 : w.heap.size + 1 + 1 < w5.heap.size := Nat.lt_of_lt_of_le (by first | omega | exact Below.size (by assumption) | (simp; done) | (simp; omega)) (Below.size hb5)
    have c5_3 := fun o => Below.cell hb5 (p := ⟨w.heap.size + 1 + 1 + 1, o, none⟩) (by first | omega | exact Below.size (by assumption) | (simp; done) | (simp; omega))
    have f5_3 := fun o => Below.frozen hb5 (p := ⟨w.heap.size + 1 + 1 + 1, o, none⟩) (by first | omega | exact Below.size (by assumption) | (simp; done) | (simp; omega))
    have l5_3 : w.heap.size + 1 + 1 + 1 < w5.heap.size := Nat.lt_of_lt_of_le (by first | omega | exact Below.size (by assumption) | (simp; done) | (simp; omega)) (Below.size hb5)
    have hB5 : Below w.heap.size w w5 := hB3.trans (hb5.mono hB3.size)
    have Ho5 : Hid (OwnI w5 (w.heap.size + 4) 3 .i64 (.slice A' n c') zs) := Lib.hid (Ho3.out.below hb5)
    go_wp2_with fail
    refine (HR.out _ hB5).mono ?_
    rintro e w6 ⟨rfl, hb6⟩
    have k6 : w.heap.size + 1 + 1 + 1 < w5.heap.size := l5_3
    have c6_0 := fun o => Below.cell hb6 (p := ⟨w.heap.size, o, none⟩) (by first | omega | exact Below.size (by assumption) | (simp; done) | (simp; omega))
    have l6_0 : w.heap.size < w6.heap.size := Nat.lt_of_lt_of_le (by first | omega | exact Below.size (by assumption) | (simp; done) | (simp; omega)) (Below.size hb6)
    have c6_1 := fun o => Below.cell hb6 (p := ⟨w.heap.size + 1, o, none⟩) (by first | omega | exact Below.size (by assumption) | (simp; done) | (simp; omega))
    have l6_1 : w.heap.size + 1 < w6.heap.size := Nat.lt_of_lt_of_le (by first | omega | exact Below.size (by assumption) | (simp; done) | (simp; omega)) (Below.size hb6)
    have c6_2 := fun o => Below.cell hb6 (p := ⟨w.heap.size + 1 + 1, o, none⟩) (by first | omega | exact Below.size (by assumption) | (simp; done) | (simp; omega))
    have f6_2 := fun o => Below.frozen hb6 (p := ⟨w.heap.size + 1 + 1, o, none⟩) (by first | omega | exact Below.size (by assumption) | (simp; done) | (simp; omega))
    have l6_2 : w.heap.size + 1 + 1 < w6.heap.size := Nat.lt_of_lt_of_le (by first | omega | exact Below.size (by assumption) | (simp; done) | (simp; omega)) (Below.size hb6)
    have c6_3 := fun o => Below.cell hb6 (p := ⟨w.heap.size + 1 + 1 + 1, o, none⟩) (by first | omega | exact Below.size (by assumption) | (simp; done) | (simp; omega))
    have f6_3 := fun o => Below.frozen hb6 (p := ⟨w.heap.size + 1 + 1 + 1, o, none⟩) (by first | omega | exact Below.size (by assumption) | (simp; done) | (simp; omega))
    have l6_3 : w.heap.size + 1 + 1 + 1 < w6.heap.size := Nat.lt_of_lt_of_le (by first | omega | exact Below.size (by assumption) | (simp; done) | (simp; omega)) (Below.size hb6)
    have hB6 : Below w.heap.size w w6 := hB5.trans (hb6.mono hB5.size)
    have Ho6 : Hid (OwnI w6 (w.heap.size + 4) 3 .i64 (.slice A' n c') zs) := Lib.hid (Ho5.out.below hb6)
    have k7 : w.heap.size + 1 + 1 + 1 < w6.heap.size := l6_3
    clear hb5 hb6 Ho3 Ho5
    have hz : 0 < zs.length := by have := Hn.out; omega
    obtain ⟨b, off, hA, hcz⟩ := RdI.at_ (RdI.below Hr.out hB6) hz
    subst hA
    obtain ⟨g, cg, hv, hgc, hg1, hg2⟩ := Ho6.out.formNE hz
    injection hv with hv1 hv2 hv3
    subst hv1 hv3
    clear hv2
    have Hz : Hid (∃ z l, zs = z :: l) := Lib.hid (by
      match zs, hz with
      | z :: l, _ => exact ⟨z, l, rfl⟩)
    obtain ⟨z, l, hzl⟩ := Hz.out
    subst hzl
    simp only [List.getElem_cons_zero, Nat.add_zero] at hcz
    have Hlen : Hid (l.length = n - 1) := Lib.hid (by have := Hn.out; simp at this; omega)
    have hne : ((n : Int) == 0) = false := by simp; omega
    have hb6 : b < w6.heap.size := lt_of_cell hcz
    have hbx : b ≠ w.heap.size + 1 + 1 + 1 := by
      intro hE
      rcases Hr.out with h | ⟨b', off', hA, hc⟩
      · simp at h
      · injection hA with hA
        injection hA with e1 e2 e3
        subst e1
        have := lt_of_cell (hc 0 _ rfl)
        omega
    clear hz
    by_cases hcg : c' = 1
    · subst hcg
      have hl0 : l.length = 0 := by have := Hlen.out; omega
      go_wp2_with fail
      go_still_tail 9, (by kernel_rfl)
      refine wpStill_step (fun K hK => ?_)
      go_simp
      rw [if_pos (show (1 : Int) ≤ (n : Int) by omega)]
      go_simp
      refine hK _ ?_
      clear hK K
      repeat still_step
      refine wpStill_nil ?_
      change wpList _ _ _ _ _ w6.drew
      go_wp2_with fail
      refine bodyPost_ret (v := .tuple #[.agg #[.slice (some ⟨g, 0, none⟩) (n - 1) 0, (.int .i64 most), (.int .i64 mb), (.int .i64 drops)], (.int .i64 z), (.int .i64 0)]) (by simp [results, Try.results92, go_sem, *]) rfl ?_
      refine ⟨some ⟨g, 0, none⟩, 0, by rw [List.tail_cons, Hlen.out, List.headD_cons], by rw [List.tail_cons, hl0]; exact Nat.le_refl _, andF (by omega) (RdI.len0 hl0), (by repeat (first | (with_reducible exact Below.refl _ _) | (with_reducible assumption) | (with_reducible refine Below.drew ?_) | (with_reducible refine below_drewN ?_ _) | ((with_reducible refine Below.setCell ?_ ?_ _); rotate_left; (next => first | omega | exact Nat.le_refl _ | (refine Below.size (B := ?_) ?_; rotate_left; assumption) | (simp; done) | (simp; omega))) | ((with_reducible refine Below.alloc ?_ ?_ _); rotate_left; (next => first | omega | exact Nat.le_refl _ | (refine Below.size (B := ?_) ?_; rotate_left; assumption) | (simp; done) | (simp; omega))) | ((with_reducible refine Below.trans (b := ?_) ?_ (Below.mono (B := ?_) ?_ ?_)); rotate_left 3; (next => (with_reducible assumption)); (next => first | omega | exact Nat.le_refl _ | (refine Below.size (B := ?_) ?_; rotate_left; assumption) | (simp; done) | (simp; omega)))))⟩
    · have hc1 : 1 ≤ c' := by omega
      go_wp2_with fail
      go_still_tail 9, (by kernel_rfl)
      refine wpStill_step (fun K hK => ?_)
      go_simp
      rw [if_pos (show (1 : Int) ≤ (n : Int) by omega)]
      go_simp
      refine hK _ ?_
      clear hK K
      repeat still_step
      refine wpStill_nil ?_
      change wpList _ _ _ _ _ w6.drew
      go_wp2_with fail
      refine bodyPost_ret (v := .tuple #[.agg #[.slice (some ⟨g, 1, none⟩) (n - 1) (c' - 1), (.int .i64 most), (.int .i64 mb), (.int .i64 drops)], (.int .i64 z), (.int .i64 0)]) (by simp [results, Try.results92, go_sem, *]) rfl ?_
      refine ⟨some ⟨g, 1, none⟩, c' - 1, by rw [List.tail_cons, Hlen.out, List.headD_cons], by rw [List.tail_cons, Hlen.out]; omega, andF (by omega) <| RdI.other (RdI.other (w := w6.drew) (RdI.tail (OwnI.rd Ho6.out)) (b := w.heap.size + 1 + 1 + 1) (o := 0) (n := 4) ((Upd.refl _ _ _ _).setCell (by omega) (by omega) _) (by omega)) (b := w.heap.size + 1 + 1) (o := 0) (n := 4) (((((Upd.refl _ _ _ _).setCell (by omega) (by omega) _).setCell (by omega) (by omega) _).setCell (by omega) (by omega) _).setCell (by omega) (by omega) _) (by omega), (by repeat (first | (with_reducible exact Below.refl _ _) | (with_reducible assumption) | (with_reducible refine Below.drew ?_) | (with_reducible refine below_drewN ?_ _) | ((with_reducible refine Below.setCell ?_ ?_ _); rotate_left; (next => first | omega | exact Nat.le_refl _ | (refine Below.size (B := ?_) ?_; rotate_left; assumption) | (simp; done) | (simp; omega))) | ((with_reducible refine Below.alloc ?_ ?_ _); rotate_left; (next => first | omega | exact Nat.le_refl _ | (refine Below.size (B := ?_) ?_; rotate_left; assumption) | (simp; done) | (simp; omega))) | ((with_reducible refine Below.trans (b := ?_) ?_ (Below.mono (B := ?_) ?_ ?_)); rotate_left 3; (next => (with_reducible assumption)); (next => first | omega | exact Nat.le_refl _ | (refine Below.size (B := ?_) ?_; rotate_left; assumption) | (simp; done) | (simp; omega)))))⟩
  · have hd1 : decide ((n : Int) + 1 ≤ most) = true := decide_eq_true (by omega)
    go_wp2_with fail
    try dsimp only [List.append]
    refine wp_region_since W3 (Below.refl _ _) (by kernel_rfl) (by kernel_rfl) ?_
    repeat (go_big_quiet_step ((go_at_call 115; exact Calls.since (HSs.out _))))
    refine wpQuiet_nil ?_
    rintro w5 ⟨i5, hi5⟩
    have hb5 : Below W3.heap.size W3 w5 := hi5 ▸ i5.property
    clear hi5 i5 s0 s1 HSs HBs hwn hd1
    have c5_0 := fun o => Below.cell hb5 (p := ⟨w.heap.size, o, none⟩) (by first | omega | exact Below.size (by assumption) | (simp; done) | (simp; omega))
    have l5_0 : w.heap.size < w5.heap.size := Nat.lt_of_lt_of_le (by first | omega | exact Below.size (by assumption) | (simp; done) | (simp; omega)) (Below.size hb5)
    have c5_1 := fun o => Below.cell hb5 (p := ⟨w.heap.size + 1, o, none⟩) (by first | omega | exact Below.size (by assumption) | (simp; done) | (simp; omega))
    have l5_1 : w.heap.size + 1 < w5.heap.size := Nat.lt_of_lt_of_le (by first | omega | exact Below.size (by assumption) | (simp; done) | (simp; omega)) (Below.size hb5)
    have c5_2 := fun o => Below.cell hb5 (p := ⟨w.heap.size + 1 + 1, o, none⟩) (by first | omega | exact Below.size (by assumption) | (simp; done) | (simp; omega))
    have f5_2 := fun o => Below.frozen hb5 (p := ⟨w.heap.size + 1 + 1, o, none⟩) (by first | omega | exact Below.size (by assumption) | (simp; done) | (simp; omega))
    have l5_2 : w.heap.size + 1 + 1 < w5.heap.size := Nat.lt_of_lt_of_le (by first | omega | exact Below.size (by assumption) | (simp; done) | (simp; omega)) (Below.size hb5)
    have c5_3 := fun o => Below.cell hb5 (p := ⟨w.heap.size + 1 + 1 + 1, o, none⟩) (by first | omega | exact Below.size (by assumption) | (simp; done) | (simp; omega))
    have f5_3 := fun o => Below.frozen hb5 (p := ⟨w.heap.size + 1 + 1 + 1, o, none⟩) (by first | omega | exact Below.size (by assumption) | (simp; done) | (simp; omega))
    have l5_3 : w.heap.size + 1 + 1 + 1 < w5.heap.size := Nat.lt_of_lt_of_le (by first | omega | exact Below.size (by assumption) | (simp; done) | (simp; omega)) (Below.size hb5)
    have hB5 : Below w.heap.size w w5 := hB3.trans (hb5.mono hB3.size)
    have Ho5 : Hid (OwnI w5 (w.heap.size + 4) 3 .i64 (.slice A' n c') zs) := Lib.hid (Ho3.out.below hb5)
    go_wp2_with fail
    refine (HR.out _ hB5).mono ?_
    rintro e w6 ⟨rfl, hb6⟩
    have k6 : w.heap.size + 1 + 1 + 1 < w5.heap.size := l5_3
    have c6_0 := fun o => Below.cell hb6 (p := ⟨w.heap.size, o, none⟩) (by first | omega | exact Below.size (by assumption) | (simp; done) | (simp; omega))
    have l6_0 : w.heap.size < w6.heap.size := Nat.lt_of_lt_of_le (by first | omega | exact Below.size (by assumption) | (simp; done) | (simp; omega)) (Below.size hb6)
    have c6_1 := fun o => Below.cell hb6 (p := ⟨w.heap.size + 1, o, none⟩) (by first | omega | exact Below.size (by assumption) | (simp; done) | (simp; omega))
    have l6_1 : w.heap.size + 1 < w6.heap.size := Nat.lt_of_lt_of_le (by first | omega | exact Below.size (by assumption) | (simp; done) | (simp; omega)) (Below.size hb6)
    have c6_2 := fun o => Below.cell hb6 (p := ⟨w.heap.size + 1 + 1, o, none⟩) (by first | omega | exact Below.size (by assumption) | (simp; done) | (simp; omega))
    have f6_2 := fun o => Below.frozen hb6 (p := ⟨w.heap.size + 1 + 1, o, none⟩) (by first | omega | exact Below.size (by assumption) | (simp; done) | (simp; omega))
    have l6_2 : w.heap.size + 1 + 1 < w6.heap.size := Nat.lt_of_lt_of_le (by first | omega | exact Below.size (by assumption) | (simp; done) | (simp; omega)) (Below.size hb6)
    have c6_3 := fun o => Below.cell hb6 (p := ⟨w.heap.size + 1 + 1 + 1, o, none⟩) (by first | omega | exact Below.size (by assumption) | (simp; done) | (simp; omega))
    have f6_3 := fun o => Below.frozen hb6 (p := ⟨w.heap.size + 1 + 1 + 1, o, none⟩) (by first | omega | exact Below.size (by assumption) | (simp; done) | (simp; omega))
    have l6_3 : w.heap.size + 1 + 1 + 1 < w6.heap.size := Nat.lt_of_lt_of_le (by first | omega | exact Below.size (by assumption) | (simp; done) | (simp; omega)) (Below.size hb6)
    have hB6 : Below w.heap.size w w6 := hB5.trans (hb6.mono hB5.size)
    have Ho6 : Hid (OwnI w6 (w.heap.size + 4) 3 .i64 (.slice A' n c') zs) := Lib.hid (Ho5.out.below hb6)
    have k7 : w.heap.size + 1 + 1 + 1 < w6.heap.size := l6_3
    clear hb5 hb6 Ho3 Ho5
    have hz : 0 < zs.length := by have := Hn.out; omega
    obtain ⟨b, off, hA, hcz⟩ := RdI.at_ (RdI.below Hr.out hB6) hz
    subst hA
    obtain ⟨g, cg, hv, hgc, hg1, hg2⟩ := Ho6.out.formNE hz
    injection hv with hv1 hv2 hv3
    subst hv1 hv3
    clear hv2
    have Hz : Hid (∃ z l, zs = z :: l) := Lib.hid (by
      match zs, hz with
      | z :: l, _ => exact ⟨z, l, rfl⟩)
    obtain ⟨z, l, hzl⟩ := Hz.out
    subst hzl
    simp only [List.getElem_cons_zero, Nat.add_zero] at hcz
    have Hlen : Hid (l.length = n - 1) := Lib.hid (by have := Hn.out; simp at this; omega)
    have hne : ((n : Int) == 0) = false := by simp; omega
    have hb6 : b < w6.heap.size := lt_of_cell hcz
    have hbx : b ≠ w.heap.size + 1 + 1 + 1 := by
      intro hE
      rcases Hr.out with h | ⟨b', off', hA, hc⟩
      · simp at h
      · injection hA with hA
        injection hA with e1 e2 e3
        subst e1
        have := lt_of_cell (hc 0 _ rfl)
        omega
    clear hz
    by_cases hcg : c' = 1
    · subst hcg
      have hl0 : l.length = 0 := by have := Hlen.out; omega
      go_wp2_with fail
      go_still_tail 9, (by kernel_rfl)
      refine wpStill_step (fun K hK => ?_)
      go_simp
      rw [if_pos (show (1 : Int) ≤ (n : Int) by omega)]
      go_simp
      refine hK _ ?_
      clear hK K
      repeat still_step
      refine wpStill_nil ?_
      change wpList _ _ _ _ _ w6.drew
      go_wp2_with fail
      refine bodyPost_ret (v := .tuple #[.agg #[.slice (some ⟨g, 0, none⟩) (n - 1) 0, (.int .i64 most), (.int .i64 mb), (.int .i64 drops)], (.int .i64 z), (.int .i64 0)]) (by simp [results, Try.results92, go_sem, *]) rfl ?_
      refine ⟨some ⟨g, 0, none⟩, 0, by rw [List.tail_cons, Hlen.out, List.headD_cons], by rw [List.tail_cons, hl0]; exact Nat.le_refl _, andF (by omega) (RdI.len0 hl0), (by repeat (first | (with_reducible exact Below.refl _ _) | (with_reducible assumption) | (with_reducible refine Below.drew ?_) | (with_reducible refine below_drewN ?_ _) | ((with_reducible refine Below.setCell ?_ ?_ _); rotate_left; (next => first | omega | exact Nat.le_refl _ | (refine Below.size (B := ?_) ?_; rotate_left; assumption) | (simp; done) | (simp; omega))) | ((with_reducible refine Below.alloc ?_ ?_ _); rotate_left; (next => first | omega | exact Nat.le_refl _ | (refine Below.size (B := ?_) ?_; rotate_left; assumption) | (simp; done) | (simp; omega))) | ((with_reducible refine Below.trans (b := ?_) ?_ (Below.mono (B := ?_) ?_ ?_)); rotate_left 3; (next => (with_reducible assumption)); (next => first | omega | exact Nat.le_refl _ | (refine Below.size (B := ?_) ?_; rotate_left; assumption) | (simp; done) | (simp; omega)))))⟩
    · have hc1 : 1 ≤ c' := by omega
      go_wp2_with fail
      go_still_tail 9, (by kernel_rfl)
      refine wpStill_step (fun K hK => ?_)
      go_simp
      rw [if_pos (show (1 : Int) ≤ (n : Int) by omega)]
      go_simp
      refine hK _ ?_
      clear hK K
      repeat still_step
      refine wpStill_nil ?_
      change wpList _ _ _ _ _ w6.drew
      go_wp2_with fail
      refine bodyPost_ret (v := .tuple #[.agg #[.slice (some ⟨g, 1, none⟩) (n - 1) (c' - 1), (.int .i64 most), (.int .i64 mb), (.int .i64 drops)], (.int .i64 z), (.int .i64 0)]) (by simp [results, Try.results92, go_sem, *]) rfl ?_
      refine ⟨some ⟨g, 1, none⟩, c' - 1, by rw [List.tail_cons, Hlen.out, List.headD_cons], by rw [List.tail_cons, Hlen.out]; omega, andF (by omega) <| RdI.other (RdI.other (w := w6.drew) (RdI.tail (OwnI.rd Ho6.out)) (b := w.heap.size + 1 + 1 + 1) (o := 0) (n := 4) ((Upd.refl _ _ _ _).setCell (by omega) (by omega) _) (by omega)) (b := w.heap.size + 1 + 1) (o := 0) (n := 4) (((((Upd.refl _ _ _ _).setCell (by omega) (by omega) _).setCell (by omega) (by omega) _).setCell (by omega) (by omega) _).setCell (by omega) (by omega) _) (by omega), (by repeat (first | (with_reducible exact Below.refl _ _) | (with_reducible assumption) | (with_reducible refine Below.drew ?_) | (with_reducible refine below_drewN ?_ _) | ((with_reducible refine Below.setCell ?_ ?_ _); rotate_left; (next => first | omega | exact Nat.le_refl _ | (refine Below.size (B := ?_) ?_; rotate_left; assumption) | (simp; done) | (simp; omega))) | ((with_reducible refine Below.alloc ?_ ?_ _); rotate_left; (next => first | omega | exact Nat.le_refl _ | (refine Below.size (B := ?_) ?_; rotate_left; assumption) | (simp; done) | (simp; omega))) | ((with_reducible refine Below.trans (b := ?_) ?_ (Below.mono (B := ?_) ?_ ?_)); rotate_left 3; (next => (with_reducible assumption)); (next => first | omega | exact Nat.le_refl _ | (refine Below.size (B := ?_) ?_; rotate_left; assumption) | (simp; done) | (simp; omega)))))⟩


end Go.Proofs.Ytlmnlffbbbcodaa.Ring
