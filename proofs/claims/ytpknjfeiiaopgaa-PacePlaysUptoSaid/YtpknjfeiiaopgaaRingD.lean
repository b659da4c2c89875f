/- Walk: ring.Step, a packet goes out. -/
import Derived.Test.YtpknjfeiiaopgaaRingC
namespace Go.Proofs.Ytpknjfeiiaopgaa.Ring
open Go.RowKit Go.Proofs.Ytpknjfeiiaopgaa.Big

set_option maxRecDepth 100000 in
set_option maxHeartbeats 2000000 in
theorem step_out (A : Option Addr) (n c : Nat) (zs : List Int) (most mb drops v : Int) (w : World) (hr : RdI .i64 w A zs) (hn : zs.length = n) (h : right zs most mb drops = true) (h0 : 0 < n) :
    Calls Try.prog 100 #[.agg #[.slice A n c, (.int .i64 most), (.int .i64 mb), (.int .i64 drops)], .agg #[(.int .i64 2), (.int .i64 v)]] w fun e w' => StepR most mb (drops) (zs.headD 0) (zs.tail) w e w' := by
  obtain ⟨⟨⟨m0, m1⟩, ⟨m2, m3⟩, ⟨m4, m5⟩, m6⟩, hall, t0, t1⟩ := right_parts h
  rw [hn] at m6
  have HR : Hid (∀ W, Below w.heap.size w W → Calls Try.prog 125 #[.agg #[.slice A n c, (.int .i64 most), (.int .i64 mb), (.int .i64 drops)]] W fun e w' => e = .returned (.bool true) ∧ Below W.heap.size W w') := Lib.hid fun W hW => h ▸ right_any A n c zs most mb drops W (hr.below hW) hn (by omega)
  have HC : Hid (∀ W, Below w.heap.size w W → Calls Try.prog 68 #[.slice A n c] W fun e w' => ∃ v, e = .returned v ∧ OwnI w' W.heap.size 3 .i64 v zs ∧ Below W.heap.size W w') := Lib.hid fun W hW => clone_own A n c zs W (hr.below hW) hn (by omega)
  have HN : Hid (∀ er W, Calls Try.prog 124 #[(.int .i64 er)] W fun e w' => e = .returned (.tuple #[.agg #[.slice none 0 0, (.int .i64 0), (.int .i64 0), (.int .i64 0)], (.int .i64 0), (.int .i64 er)]) ∧ Below W.heap.size W w') := Lib.hid fun er W => no_any er W
  have Hn := Lib.hid hn
  have Hall := Lib.hid hall
  clear hr hn h hall
  go_enter Try.func100, Try.ntmps100
  go_wp2_with fail
  refine (HR.out _ (by repeat (first | (with_reducible exact Below.refl _ _) | (with_reducible assumption) | (with_reducible refine Below.drew ?_) | (with_reducible refine below_drewN ?_ _) | ((with_reducible refine Below.setCell ?_ ?_ _); rotate_left; (next => first | omega | exact Nat.le_refl _ | (refine Below.size (B := ?_) ?_; rotate_left; assumption) | (simp; done) | (simp; omega))) | ((with_reducible refine Below.alloc ?_ ?_ _); rotate_left; (next => first | omega | exact Nat.le_refl _ | (refine Below.size (B := ?_) ?_; rotate_left; assumption) | (simp; done) | (simp; omega))) | ((with_reducible refine Below.trans (b := ?_) ?_ (Below.mono (B := ?_) ?_ ?_)); rotate_left 3; (next => (with_reducible assumption)); (next => first | omega | exact Nat.le_refl _ | (refine Below.size (B := ?_) ?_; rotate_left; assumption) | (simp; done) | (simp; omega))) | exact Below.refl _ _ | assumption | refine Below.drew ?_ | refine below_drewN ?_ _ | refine Below.alloc ?_ (by first | omega | exact Below.size (by assumption) | (simp; done) | (simp; omega)) _ | refine Below.setCell ?_ (by first | omega | exact Below.size (by assumption) | (simp; done) | (simp; omega)) _ | refine Below.trans ?_ (Below.mono (by assumption) (by first | omega | exact Below.size (by assumption) | (simp; done) | (simp; omega)))))).mono ?_
  rintro e w1 ⟨rfl, hb1⟩
  have hB1 : Below w.heap.size w w1 := (by repeat (first | (with_reducible exact Below.refl _ _) | (with_reducible assumption) | (with_reducible refine Below.drew ?_) | (with_reducible refine below_drewN ?_ _) | ((with_reducible refine Below.setCell ?_ ?_ _); rotate_left; (next => first | omega | exact Nat.le_refl _ | (refine Below.size (B := ?_) ?_; rotate_left; assumption) | (simp; done) | (simp; omega))) | ((with_reducible refine Below.alloc ?_ ?_ _); rotate_left; (next => first | omega | exact Nat.le_refl _ | (refine Below.size (B := ?_) ?_; rotate_left; assumption) | (simp; done) | (simp; omega))) | ((with_reducible refine Below.trans (b := ?_) ?_ (Below.mono (B := ?_) ?_ ?_)); rotate_left 3; (next => (with_reducible assumption)); (next => first | omega | exact Nat.le_refl _ | (refine Below.size (B := ?_) ?_; rotate_left; assumption) | (simp; done) | (simp; omega))) | exact Below.refl _ _ | assumption | refine Below.drew ?_ | refine below_drewN ?_ _ | refine Below.alloc ?_ (by first | omega | exact Below.size (by assumption) | (simp; done) | (simp; omega)) _ | refine Below.setCell ?_ (by first | omega | exact Below.size (by assumption) | (simp; done) | (simp; omega)) _ | refine Below.trans ?_ (Below.mono (by assumption) (by first | omega | exact Below.size (by assumption) | (simp; done) | (simp; omega)))))
  have hs1 := hB1.size
  have c1_0 := fun o => Below.cell hb1 (p := ⟨w.heap.size, o, none⟩) (by first | omega | exact Below.size (by assumption) | (simp; done) | (simp; omega))
  have f1_0 := fun o => Below.frozen hb1 (p := ⟨w.heap.size, o, none⟩) (by first | omega | exact Below.size (by assumption) | (simp; done) | (simp; omega))
  have l1_0 : w.heap.size < w1.heap.size := Nat.lt_of_lt_of_le (by first | omega | exact Below.size (by assumption) | (simp; done) | (simp; omega)) (Below.size hb1)
  have c1_1 := fun o => Below.cell hb1 (p := ⟨w.heap.size + 1, o, none⟩) (by first | omega | exact Below.size (by assumption) | (simp; done) | (simp; omega))
  have l1_1 : w.heap.size + 1 < w1.heap.size := Nat.lt_of_lt_of_le (by first | omega | exact Below.size (by assumption) | (simp; done) | (simp; omega)) (Below.size hb1)
  have c1_2 := fun o => Below.cell hb1 (p := ⟨w.heap.size + 1 + 1, o, none⟩) (by first | omega | exact Below.size (by assumption) | (simp; done) | (simp; omega))
  have f1_2 := fun o => Below.frozen hb1 (p := ⟨w.heap.size + 1 + 1, o, none⟩) (by first | omega | exact Below.size (by assumption) | (simp; done) | (simp; omega))
  have l1_2 : w.heap.size + 1 + 1 < w1.heap.size := Nat.lt_of_lt_of_le (by first | omega | exact Below.size (by assumption) | (simp; done) | (simp; omega)) (Below.size hb1)
  have k1 : w.heap.size + 1 + 1 < w1.heap.size := l1_2
  go_wp2_with fail
  refine (HC.out _ hB1).mono ?_
  rintro e w2 ⟨v0, rfl, ho, hb2⟩
  have c2_0 := fun o => Below.cell hb2 (p := ⟨w.heap.size, o, none⟩) (by first | omega | exact Below.size (by assumption) | (simp; done) | (simp; omega))
  have f2_0 := fun o => Below.frozen hb2 (p := ⟨w.heap.size, o, none⟩) (by first | omega | exact Below.size (by assumption) | (simp; done) | (simp; omega))
  have l2_0 : w.heap.size < w2.heap.size := Nat.lt_of_lt_of_le (by first | omega | exact Below.size (by assumption) | (simp; done) | (simp; omega)) (Below.size hb2)
  have c2_1 := fun o => Below.cell hb2 (p := ⟨w.heap.size + 1, o, none⟩) (by first | omega | exact Below.size (by assumption) | (simp; done) | (simp; omega))
  have l2_1 : w.heap.size + 1 < w2.heap.size := Nat.lt_of_lt_of_le (by first | omega | exact Below.size (by assumption) | (simp; done) | (simp; omega)) (Below.size hb2)
  have c2_2 := fun o => Below.cell hb2 (p := ⟨w.heap.size + 1 + 1, o, none⟩) (by first | omega | exact Below.size (by assumption) | (simp; done) | (simp; omega))
  have f2_2 := fun o => Below.frozen hb2 (p := ⟨w.heap.size + 1 + 1, o, none⟩) (by first | omega | exact Below.size (by assumption) | (simp; done) | (simp; omega))
  have l2_2 : w.heap.size + 1 + 1 < w2.heap.size := Nat.lt_of_lt_of_le (by first | omega | exact Below.size (by assumption) | (simp; done) | (simp; omega)) (Below.size hb2)
  have hB2 : Below w.heap.size w w2 := hB1.trans (hb2.mono hB1.size)
  have k2 : w.heap.size + 1 + 1 < w2.heap.size := l2_2
  have K12 : w1.heap.size ≤ w2.heap.size := hb2.size
  obtain ⟨A', c', rfl, hlc, _, _⟩ := ho.form
  rw [Hn.out] at ho hlc ⊢
  have Ho := Lib.hid ho
  clear ho hb1 hb2
  go_upto_region 5 with (fail)
  generalize hW : w2.setCell _ _ = W3
  have HW := Lib.hid hW
  clear hW
  have q0 : W3.cell? ⟨w.heap.size, 0, none⟩ = some (.slice A' n c') := by
    rw [← HW.out]
    exact World.cell?_setCell_same _ _ _ (show w2.cell? ⟨w.heap.size, 0, none⟩ = some (.slice A n c) from by rw [c2_0, c1_0]; simp [go_sem])
  have q1 : W3.cell? ⟨w.heap.size, 1, none⟩ = some (.int .i64 most) := by rw [← HW.out, World.cell?_setCell_other _ _ _ _ (by simp), c2_0, c1_0]; simp [go_sem]
  have q2 : W3.cell? ⟨w.heap.size, 2, none⟩ = some (.int .i64 mb) := by rw [← HW.out, World.cell?_setCell_other _ _ _ _ (by simp), c2_0, c1_0]; simp [go_sem]
  have q3 : W3.cell? ⟨w.heap.size, 3, none⟩ = some (.int .i64 drops) := by rw [← HW.out, World.cell?_setCell_other _ _ _ _ (by simp), c2_0, c1_0]; simp [go_sem]
  have q4 : ∀ o, W3.frozen? ⟨w.heap.size, o, none⟩ = false := fun o => by rw [← HW.out, World.frozen?_setCell, f2_0, f1_0]; simp [go_sem]
  have e0 : ∀ o, W3.cell? ⟨w.heap.size + 1, o, none⟩ = (#[(.int .i64 2), (.int .i64 v)] : Array Value)[o]? := fun o => by
    rw [← HW.out, World.cell?_setCell_other _ _ _ _ (by simp), c2_1, c1_1]; simp [go_sem]
  have r0 : ∀ o, W3.cell? ⟨w.heap.size + 1 + 1, o, none⟩ = (#[.slice none 0 0, (.int .i64 0), (.int .i64 0), (.int .i64 0)] : Array Value)[o]? := fun o => by
    rw [← HW.out, World.cell?_setCell_other _ _ _ _ (by simp only [ne_eq, Addr.mk.injEq, not_and]; omega), c2_2, c1_2]; simp [go_sem]
  have r1 : ∀ o, W3.frozen? ⟨w.heap.size + 1 + 1, o, none⟩ = false := fun o => by rw [← HW.out, World.frozen?_setCell, f2_2, f1_2]; simp [go_sem]
  have hB3 : Below w.heap.size w W3 := by rw [← HW.out]; exact hB2.setCell (Nat.le_refl _) _
  have k3 : W3.heap.size = w2.heap.size := by rw [← HW.out]; simp [World.setCell]
  have Ho3 : Hid (OwnI W3 w1.heap.size 3 .i64 (.slice A' n c') zs) := Lib.hid (by
    rw [← HW.out]
    exact OwnI.upd (b := w.heap.size) (o := 0) (n := 4) Ho.out ((Upd.refl _ _ _ _).setCell (by omega) (by omega) _) (fun g hg => by have := (World.ownsRow.lt Ho.out g hg).1; omega))
  have k4 : w1.heap.size ≤ W3.heap.size := by
    have := hB2.size
    rw [k3]
    exact K12
  clear HW Ho HR HC c1_0 c1_1 c1_2 c2_0 c2_1 c2_2 f1_0 f1_2 f2_0 f2_2 l1_0 l1_1 l1_2 l2_0 l2_1 l2_2 hB1 hB2 hs1
  have hz : 0 < zs.length := by have := Hn.out; omega
  obtain ⟨g, cg, hv, hgc, hg1, hg2⟩ := Ho3.out.formNE hz
  injection hv with hv1 hv2 hv3
  subst hv1 hv3
  have hq := Ho3.out
  rw [← Hn.out] at hq
  have hc0 := OwnI.cell hq (j := 0) hz
  clear hq
  have Hz : Hid (∃ z l, zs = z :: l) := Lib.hid (by
    match zs, hz with
    | z :: l, _ => exact ⟨z, l, rfl⟩)
  obtain ⟨z, l, hzl⟩ := Hz.out
  subst hzl
  simp only [List.getElem_cons_zero] at hc0
  have Hlen : Hid (l.length = n - 1) := Lib.hid (by have := Hn.out; simp at this; omega)
  have HC2 : Hid (∀ W A2 c2, Below W3.heap.size W3 W → RdI .i64 W A2 l → Calls Try.prog 68 #[.slice A2 (n - 1) c2] W fun e w' => ∃ v, e = .returned v ∧ OwnI w' W.heap.size 3 .i64 v l ∧ Below W.heap.size W w') := Lib.hid fun W A2 c2 _ hrl => clone_own A2 (n - 1) c2 l W hrl Hlen.out (by omega)
  have k5 : w.heap.size + 1 + 1 < W3.heap.size := by omega
  have hne : ((n : Int) == 0) = false := by simp; omega
  clear hv2
  have hnc : (1 : Nat) ≤ c' := by omega
  by_cases hcg : c' = 1
  · have hl0 : l.length = 0 := by have := Hlen.out; omega
    go_wp2_with fail
    refine (HC2.out _ _ _ (Below.refl _ _) (RdI.len0 hl0)).mono ?_
    rintro e w5 ⟨v5, rfl, ho5, hb5⟩
    have c5_0 := fun o => Below.cell hb5 (p := ⟨w.heap.size, o, none⟩) (by first | omega | exact Below.size (by assumption) | (simp; done) | (simp; omega))
    have f5_0 := fun o => Below.frozen hb5 (p := ⟨w.heap.size, o, none⟩) (by first | omega | exact Below.size (by assumption) | (simp; done) | (simp; omega))
    have l5_0 : w.heap.size < w5.heap.size := Nat.lt_of_lt_of_le (by first | omega | exact Below.size (by assumption) | (simp; done) | (simp; omega)) (Below.size hb5)
    have c5_1 := fun o => Below.cell hb5 (p := ⟨w.heap.size + 1, o, none⟩) (by first | omega | exact Below.size (by assumption) | (simp; done) | (simp; omega))
    have l5_1 : w.heap.size + 1 < w5.heap.size := Nat.lt_of_lt_of_le (by first | omega | exact Below.size (by assumption) | (simp; done) | (simp; omega)) (Below.size hb5)
    have c5_2 := fun o => Below.cell hb5 (p := ⟨w.heap.size + 1 + 1, o, none⟩) (by first | omega | exact Below.size (by assumption) | (simp; done) | (simp; omega))
    have f5_2 := fun o => Below.frozen hb5 (p := ⟨w.heap.size + 1 + 1, o, none⟩) (by first | omega | exact Below.size (by assumption) | (simp; done) | (simp; omega))
    have l5_2 : w.heap.size + 1 + 1 < w5.heap.size := Nat.lt_of_lt_of_le (by first | omega | exact Below.size (by assumption) | (simp; done) | (simp; omega)) (Below.size hb5)
    have hB5 : Below w.heap.size w w5 := hB3.trans (hb5.mono hB3.size)
    have k6 : w.heap.size + 1 + 1 < w5.heap.size := l5_2
    obtain ⟨A7, c7, rfl, hlc7, hrd7, hblk7⟩ := ho5.form
    rw [Hlen.out] at hlc7 ⊢
    have Hown := Lib.hid ho5
    clear ho5 hb5 hrd7 hblk7
    go_wp2_with fail
    refine bodyPost_ret (v := .tuple #[.agg #[.slice A7 (n - 1) c7, (.int .i64 most), (.int .i64 mb), (.int .i64 drops)], (.int .i64 z), (.int .i64 0)]) (by simp [results, Try.results100, go_sem, *]) rfl ?_
    refine ⟨A7, c7, by rw [List.tail_cons, Hlen.out, List.headD_cons], by rw [List.tail_cons, Hlen.out]; exact hlc7, OwnI.rdf (by omega) (OwnI.upd (b := w.heap.size + 1 + 1) (o := 0) (n := 4) (OwnI.upd (b := w.heap.size) (o := 0) (n := 4) Hown.out ((Upd.refl _ _ _ _).setCell (by omega) (by omega) _) (fun g hg => by have := (World.ownsRow.lt Hown.out g hg).1; omega)) (((((Upd.refl _ _ _ _).setCell (by omega) (by omega) _).setCell (by omega) (by omega) _).setCell (by omega) (by omega) _).setCell (by omega) (by omega) _) (fun g hg => by have := (World.ownsRow.lt Hown.out g hg).1; omega)), (by repeat (first | (with_reducible exact Below.refl _ _) | (with_reducible assumption) | (with_reducible refine Below.drew ?_) | (with_reducible refine below_drewN ?_ _) | ((with_reducible refine Below.setCell ?_ ?_ _); rotate_left; (next => first | omega | exact Nat.le_refl _ | (refine Below.size (B := ?_) ?_; rotate_left; assumption) | (simp; done) | (simp; omega))) | ((with_reducible refine Below.alloc ?_ ?_ _); rotate_left; (next => first | omega | exact Nat.le_refl _ | (refine Below.size (B := ?_) ?_; rotate_left; assumption) | (simp; done) | (simp; omega))) | ((with_reducible refine Below.trans (b := ?_) ?_ (Below.mono (B := ?_) ?_ ?_)); rotate_left 3; (next => (with_reducible assumption)); (next => first | omega | exact Nat.le_refl _ | (refine Below.size (B := ?_) ?_; rotate_left; assumption) | (simp; done) | (simp; omega)))))⟩
  · go_wp2_with fail
    refine (HC2.out _ _ _ (Below.refl _ _) (RdI.tail (OwnI.rd Ho3.out))).mono ?_
    rintro e w5 ⟨v5, rfl, ho5, hb5⟩
    have c5_0 := fun o => Below.cell hb5 (p := ⟨w.heap.size, o, none⟩) (by first | omega | exact Below.size (by assumption) | (simp; done) | (simp; omega))
    have f5_0 := fun o => Below.frozen hb5 (p := ⟨w.heap.size, o, none⟩) (by first | omega | exact Below.size (by assumption) | (simp; done) | (simp; omega))
    have l5_0 : w.heap.size < w5.heap.size := Nat.lt_of_lt_of_le (by first | omega | exact Below.size (by assumption) | (simp; done) | (simp; omega)) (Below.size hb5)
    have c5_1 := fun o => Below.cell hb5 (p := ⟨w.heap.size + 1, o, none⟩) (by first | omega | exact Below.size (by assumption) | (simp; done) | (simp; omega))
    have l5_1 : w.heap.size + 1 < w5.heap.size := Nat.lt_of_lt_of_le (by first | omega | exact Below.size (by assumption) | (simp; done) | (simp; omega)) (Below.size hb5)
    have c5_2 := fun o => Below.cell hb5 (p := ⟨w.heap.size + 1 + 1, o, none⟩) (by first | omega | exact Below.size (by assumption) | (simp; done) | (simp; omega))
    have f5_2 := fun o => Below.frozen hb5 (p := ⟨w.heap.size + 1 + 1, o, none⟩) (by first | omega | exact Below.size (by assumption) | (simp; done) | (simp; omega))
    have l5_2 : w.heap.size + 1 + 1 < w5.heap.size := Nat.lt_of_lt_of_le (by first | omega | exact Below.size (by assumption) | (simp; done) | (simp; omega)) (Below.size hb5)
    have hB5 : Below w.heap.size w w5 := hB3.trans (hb5.mono hB3.size)
    have k6 : w.heap.size + 1 + 1 < w5.heap.size := l5_2
    obtain ⟨A7, c7, rfl, hlc7, hrd7, hblk7⟩ := ho5.form
    rw [Hlen.out] at hlc7 ⊢
    have Hown := Lib.hid ho5
    clear ho5 hb5 hrd7 hblk7
    go_wp2_with fail
    refine bodyPost_ret (v := .tuple #[.agg #[.slice A7 (n - 1) c7, (.int .i64 most), (.int .i64 mb), (.int .i64 drops)], (.int .i64 z), (.int .i64 0)]) (by simp [results, Try.results100, go_sem, *]) rfl ?_
    refine ⟨A7, c7, by rw [List.tail_cons, Hlen.out, List.headD_cons], by rw [List.tail_cons, Hlen.out]; exact hlc7, OwnI.rdf (by omega) (OwnI.upd (b := w.heap.size + 1 + 1) (o := 0) (n := 4) (OwnI.upd (b := w.heap.size) (o := 0) (n := 4) Hown.out ((Upd.refl _ _ _ _).setCell (by omega) (by omega) _) (fun g hg => by have := (World.ownsRow.lt Hown.out g hg).1; omega)) (((((Upd.refl _ _ _ _).setCell (by omega) (by omega) _).setCell (by omega) (by omega) _).setCell (by omega) (by omega) _).setCell (by omega) (by omega) _) (fun g hg => by have := (World.ownsRow.lt Hown.out g hg).1; omega)), (by repeat (first | (with_reducible exact Below.refl _ _) | (with_reducible assumption) | (with_reducible refine Below.drew ?_) | (with_reducible refine below_drewN ?_ _) | ((with_reducible refine Below.setCell ?_ ?_ _); rotate_left; (next => first | omega | exact Nat.le_refl _ | (refine Below.size (B := ?_) ?_; rotate_left; assumption) | (simp; done) | (simp; omega))) | ((with_reducible refine Below.alloc ?_ ?_ _); rotate_left; (next => first | omega | exact Nat.le_refl _ | (refine Below.size (B := ?_) ?_; rotate_left; assumption) | (simp; done) | (simp; omega))) | ((with_reducible refine Below.trans (b := ?_) ?_ (Below.mono (B := ?_) ?_ ?_)); rotate_left 3; (next => (with_reducible assumption)); (next => first | omega | exact Nat.le_refl _ | (refine Below.size (B := ?_) ?_; rotate_left; assumption) | (simp; done) | (simp; omega)))))⟩

end Go.Proofs.Ytpknjfeiiaopgaa.Ring
