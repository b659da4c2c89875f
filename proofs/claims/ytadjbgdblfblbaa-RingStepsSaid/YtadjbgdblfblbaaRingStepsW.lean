/- The walk of the law RingSteps. -/
import Derived.Test.YtadjbgdblfblbaaRingD
import Derived.Test.YtadjbgdblfblbaaRingE
import Derived.Test.YtadjbgdblfblbaaRingF
import Derived.Test.YtadjbgdblfblbaaRingG
import Derived.Test.YtadjbgdblfblbaaRingH
namespace Go.Proofs.Ytadjbgdblfblbaa.RingSteps
open Go.RowKit Go.Proofs.Ytadjbgdblfblbaa.Big Go.Proofs.Ytadjbgdblfblbaa.Ring

theorem pair (A : Option Addr) (n c : Nat) (zs : List Int) (most mb drops kind v : Int) (w : World) (hr : RdI .i64 w A zs) (hn : zs.length = n) (hm : n * 8 ≤ 140737488355328) (hv : -9223372036854775808 ≤ v ∧ v ≤ 9223372036854775807) :
    (∃ er : Int, (∀ W : World, Below w.heap.size w W → Calls Try.prog 71 #[.agg #[.slice A n c, (.int .i64 most), (.int .i64 mb), (.int .i64 drops)], .agg #[(.int .i64 kind), (.int .i64 v)]] W fun e w' => e = .returned (.tuple #[.agg #[.slice none 0 0, (.int .i64 0), (.int .i64 0), (.int .i64 0)], (.int .i64 0), (.int .i64 er)]) ∧ Below W.heap.size W w') ∧
      (∀ W : World, Below w.heap.size w W → Calls Try.prog 72 #[.agg #[.slice A n c, (.int .i64 most), (.int .i64 mb), (.int .i64 drops)], .agg #[(.int .i64 kind), (.int .i64 v)]] W fun e w' => e = .returned (.tuple #[.agg #[.slice none 0 0, (.int .i64 0), (.int .i64 0), (.int .i64 0)], (.int .i64 0), (.int .i64 er)]) ∧ Below W.heap.size W w')) ∨
    (∃ (dr r : Int) (xs : List Int), xs.length ≤ 1000 ∧ (∀ W : World, Below w.heap.size w W → Calls Try.prog 71 #[.agg #[.slice A n c, (.int .i64 most), (.int .i64 mb), (.int .i64 drops)], .agg #[(.int .i64 kind), (.int .i64 v)]] W fun e w' => StepR most mb dr r xs W e w') ∧
      (∀ W : World, Below w.heap.size w W → Calls Try.prog 72 #[.agg #[.slice A n c, (.int .i64 most), (.int .i64 mb), (.int .i64 drops)], .agg #[(.int .i64 kind), (.int .i64 v)]] W fun e w' => StepR most mb dr r xs W e w')) := by
  cases h : right zs most mb drops
  · exact .inl ⟨1, fun W hW => step_form A n c zs most mb drops kind v W (hr.below hW) hn (by omega) h, fun W hW => hstep_form A n c zs most mb drops kind v W (hr.below hW) hn hm h⟩
  · obtain ⟨⟨_, _, ⟨m4, m5⟩, m6⟩, hall, t0, t1⟩ := right_parts h
    have m1 : most ≤ 400 := by
      have := right_parts h
      exact this.1.1.2
    rw [hn] at m6
    by_cases k1 : kind = 1
    · subst k1
      by_cases r1 : v < 1
      · exact .inl ⟨2, fun W hW => step_range A n c zs most mb drops v W (hr.below hW) hn h (.inl r1), fun W hW => hstep_range1 A n c zs most mb drops v W (hr.below hW) hn hm h r1⟩
      by_cases r2 : 1500 < v
      · exact .inl ⟨2, fun W hW => step_range A n c zs most mb drops v W (hr.below hW) hn h (.inr ⟨by omega, r2⟩), fun W hW => hstep_range2 A n c zs most mb drops v W (hr.below hW) hn hm h (by omega) r2⟩
      by_cases f : (n : Int) < most ∧ tot zs + v ≤ mb
      · exact .inr ⟨drops, 1, zs ++ [v], by simp; omega, fun W hW => step_in A n c zs most mb drops v W (hr.below hW) hn h (by omega) (by omega) f.1 f.2, fun W hW => hstep_in A n c zs most mb drops v W (hr.below hW) hn hm h (by omega) (by omega) (by omega) f.2⟩
      by_cases d : drops = 1099511627776
      · exact .inl ⟨4, fun W hW => step_full A n c zs most mb drops v W (hr.below hW) hn h (by omega) (by omega) (by omega) d, fun W hW => hstep_full A n c zs most mb drops v W (hr.below hW) hn hm h (by omega) (by omega) (by omega) d⟩
      · exact .inr ⟨drops + 1, 0, zs, by omega, fun W hW => step_drop A n c zs most mb drops v W (hr.below hW) hn h (by omega) (by omega) (by omega) (by omega), fun W hW => hstep_drop A n c zs most mb drops v W (hr.below hW) hn hm h (by omega) (by omega) (by omega) (by omega)⟩
    by_cases k2 : kind = 2
    · subst k2
      by_cases h0 : n = 0
      · exact .inl ⟨3, fun W hW => step_none A n c zs most mb drops v W (hr.below hW) hn h h0, fun W hW => hstep_none A n c zs most mb drops v W (hr.below hW) hn hm h h0⟩
      · exact .inr ⟨drops, zs.headD 0, zs.tail, by simp; omega, fun W hW => step_out A n c zs most mb drops v W (hr.below hW) hn h (by omega), fun W hW => hstep_out A n c zs most mb drops v W (hr.below hW) hn hm h (by omega)⟩
    · exact .inl ⟨5, fun W hW => step_kind A n c zs most mb drops kind v W (hr.below hW) hn h (by simpa using k1) (by simpa using k2), fun W hW => hstep_kind A n c zs most mb drops kind v W (hr.below hW) hn hm h (by simpa using k1) (by simpa using k2)⟩

set_option maxRecDepth 100000 in
set_option maxHeartbeats 2000000 in
theorem walk (A : Option Addr) (n c : Nat) (zs : List Int) (most mb drops kind v : Int) (w : World) (hr : RdI .i64 w A zs) (hn : zs.length = n) (hm : n * 8 ≤ 140737488355328) (hv : -9223372036854775808 ≤ v ∧ v ≤ 9223372036854775807) :
    Calls Try.prog 12 #[.agg #[.slice A n c, (.int .i64 most), (.int .i64 mb), (.int .i64 drops)], .agg #[(.int .i64 kind), (.int .i64 v)]] w fun e w' => e = .returned (.bool true) ∧ Below w.heap.size w w' := by
  have HP : Hid (∀ (W0 : World) (i : Since W0), Below w.heap.size w W0 → Calls Try.prog 73 #[.agg #[.slice A n c, (.int .i64 most), (.int .i64 mb), (.int .i64 drops)]] i.val fun e w' => e = .returned (.bool (right zs most mb drops)) ∧ Below i.val.heap.size i.val w') := Lib.hid fun W0 i hw => right_any A n c zs most mb drops i.val (hr.below (hw.trans (i.property.mono hw.size))) hn (by omega)
  have HQ : Hid (∀ (W0 : World) (i : Since W0), Below w.heap.size w W0 → Calls Try.prog 74 #[.agg #[.slice A n c, (.int .i64 most), (.int .i64 mb), (.int .i64 drops)]] i.val fun e w' => e = .returned (.bool (right zs most mb drops)) ∧ Below i.val.heap.size i.val w') := Lib.hid fun W0 i hw => hright_any A n c zs most mb drops i.val (hr.below (hw.trans (i.property.mono hw.size))) hn (by omega)
  have hpair := pair A n c zs most mb drops kind v w hr hn hm hv
  generalize right zs most mb drops = R at HP HQ
  clear hr hn hv
  rcases hpair with ⟨er, HS, HT⟩ | ⟨dr, r, xs, hx, HS, HT⟩
  · replace HS := Lib.hid HS
    replace HT := Lib.hid HT
    go_enter Try.func12, Try.ntmps12
    go_wp2_with fail
    refine (HS.out _ (by repeat (first | (with_reducible exact Below.refl _ _) | (with_reducible assumption) | (with_reducible refine Below.drew ?_) | (with_reducible refine below_drewN ?_ _) | ((with_reducible refine Below.setCell ?_ ?_ _); rotate_left; (next => first | omega | exact Nat.le_refl _ | (refine Below.size (B := ?_) ?_; rotate_left; assumption) | (simp; done) | (simp; omega))) | ((with_reducible refine Below.alloc ?_ ?_ _); rotate_left; (next => first | omega | exact Nat.le_refl _ | (refine Below.size (B := ?_) ?_; rotate_left; assumption) | (simp; done) | (simp; omega))) | ((with_reducible refine Below.trans (b := ?_) ?_ (Below.mono (B := ?_) ?_ ?_)); rotate_left 3; (next => (with_reducible assumption)); (next => first | omega | exact Nat.le_refl _ | (refine Below.size (B := ?_) ?_; rotate_left; assumption) | (simp; done) | (simp; omega))) | exact Below.refl _ _ | assumption | refine Below.drew ?_ | refine below_drewN ?_ _ | refine Below.alloc ?_ (by first | omega | exact Below.size (by assumption) | (simp; done) | (simp; omega)) _ | refine Below.setCell ?_ (by first | omega | exact Below.size (by assumption) | (simp; done) | (simp; omega)) _ | refine Below.trans ?_ (Below.mono (by assumption) (by first | omega | exact Below.size (by assumption) | (simp; done) | (simp; omega)))))).mono ?_
    rintro e w1 ⟨rfl, hb1⟩
    have c1_0 := fun o => Below.cell hb1 (p := ⟨w.heap.size, o, none⟩) (by first | omega | exact Below.size (by assumption) | (simp; done) | (simp; omega))
    have l1_0 : w.heap.size < w1.heap.size := Nat.lt_of_lt_of_le (by first | omega | exact Below.size (by assumption) | (simp; done) | (simp; omega)) (Below.size hb1)
    have c1_1 := fun o => Below.cell hb1 (p := ⟨w.heap.size + 1, o, none⟩) (by first | omega | exact Below.size (by assumption) | (simp; done) | (simp; omega))
    have l1_1 : w.heap.size + 1 < w1.heap.size := Nat.lt_of_lt_of_le (by first | omega | exact Below.size (by assumption) | (simp; done) | (simp; omega)) (Below.size hb1)
    have hB1 : Below w.heap.size w w1 := (by repeat (first | (with_reducible exact Below.refl _ _) | (with_reducible assumption) | (with_reducible refine Below.drew ?_) | (with_reducible refine below_drewN ?_ _) | ((with_reducible refine Below.setCell ?_ ?_ _); rotate_left; (next => first | omega | exact Nat.le_refl _ | (refine Below.size (B := ?_) ?_; rotate_left; assumption) | (simp; done) | (simp; omega))) | ((with_reducible refine Below.alloc ?_ ?_ _); rotate_left; (next => first | omega | exact Nat.le_refl _ | (refine Below.size (B := ?_) ?_; rotate_left; assumption) | (simp; done) | (simp; omega))) | ((with_reducible refine Below.trans (b := ?_) ?_ (Below.mono (B := ?_) ?_ ?_)); rotate_left 3; (next => (with_reducible assumption)); (next => first | omega | exact Nat.le_refl _ | (refine Below.size (B := ?_) ?_; rotate_left; assumption) | (simp; done) | (simp; omega)))))
    have k1 : w.heap.size + 1 < w1.heap.size := l1_1
    go_wp2_with fail
    refine (HT.out _ (hB1.alloc hB1.size _)).mono ?_
    rintro e w2 ⟨rfl, hb2⟩
    have c2_0 := fun o => Below.cell hb2 (p := ⟨w.heap.size, o, none⟩) (by first | omega | exact Below.size (by assumption) | (simp; done) | (simp; omega))
    have l2_0 : w.heap.size < w2.heap.size := Nat.lt_of_lt_of_le (by first | omega | exact Below.size (by assumption) | (simp; done) | (simp; omega)) (Below.size hb2)
    have c2_1 := fun o => Below.cell hb2 (p := ⟨w.heap.size + 1, o, none⟩) (by first | omega | exact Below.size (by assumption) | (simp; done) | (simp; omega))
    have l2_1 : w.heap.size + 1 < w2.heap.size := Nat.lt_of_lt_of_le (by first | omega | exact Below.size (by assumption) | (simp; done) | (simp; omega)) (Below.size hb2)
    have c2_2 := fun o => Below.cell hb2 (p := ⟨w1.heap.size, o, none⟩) (by first | omega | exact Below.size (by assumption) | (simp; done) | (simp; omega))
    have l2_2 : w1.heap.size < w2.heap.size := Nat.lt_of_lt_of_le (by first | omega | exact Below.size (by assumption) | (simp; done) | (simp; omega)) (Below.size hb2)
    have k2 : w1.heap.size < w2.heap.size := l2_2
    have hB2 : Below w.heap.size w w2 := (hB1.alloc hB1.size _).trans (hb2.mono (by simp; omega))
    clear hb1 hb2
    go_wp2_with fail
    generalize hW : World.alloc w2 _ = W0
    have HW := Lib.hid hW
    clear hW
    have d0 : ∀ o, W0.cell? ⟨w.heap.size, o, none⟩ = (#[.slice A n c, (.int .i64 most), (.int .i64 mb), (.int .i64 drops)] : Array Value)[o]? := fun o => by
      rw [← HW.out, World.cell?_alloc_lt _ _ _ (by simp only; omega), c2_0, World.cell?_alloc_lt _ _ _ (by simp only; omega), c1_0]; simp [go_sem]
    have d1 : ∀ o, W0.cell? ⟨w1.heap.size, o, none⟩ = (#[.slice none 0 0, (.int .i64 0), (.int .i64 0), (.int .i64 0)] : Array Value)[o]? := fun o => by
      rw [← HW.out, World.cell?_alloc_lt _ _ _ (by simp only; omega), c2_2]; simp [go_sem]
    have d2 : ∀ o, W0.cell? ⟨w2.heap.size, o, none⟩ = (#[.slice none 0 0, (.int .i64 0), (.int .i64 0), (.int .i64 0)] : Array Value)[o]? := fun o => by
      rw [← HW.out]; simp [go_sem]
    have d3 : W0.heap.size = w2.heap.size + 1 := by rw [← HW.out]; simp
    have hB0 : Below w.heap.size w W0 := by rw [← HW.out]; exact hB2.alloc hB2.size _
    clear HW
    have s0 : ∀ (i : Since W0) o, i.val.cell? ⟨w.heap.size, o, none⟩ = (#[.slice A n c, (.int .i64 most), (.int .i64 mb), (.int .i64 drops)] : Array Value)[o]? := fun i o => (since_cell i (by omega) o).trans (d0 o)
    have s1 : ∀ (i : Since W0) o, i.val.cell? ⟨w1.heap.size, o, none⟩ = (#[.slice none 0 0, (.int .i64 0), (.int .i64 0), (.int .i64 0)] : Array Value)[o]? := fun i o => (since_cell i (by omega) o).trans (d1 o)
    have s2 : ∀ (i : Since W0) o, i.val.cell? ⟨w2.heap.size, o, none⟩ = (#[.slice none 0 0, (.int .i64 0), (.int .i64 0), (.int .i64 0)] : Array Value)[o]? := fun i o => (since_cell i (by omega) o).trans (d2 o)
    have HE := Lib.hid fun (i : Since W0) => same_any none none 0 0 0 [] 0 0 0 i.val (.inl rfl) (.inl rfl) rfl (by omega)
    have HPs := Lib.hid fun (i : Since W0) => HP.out W0 i hB0
    have HQs := Lib.hid fun (i : Since W0) => HQ.out W0 i hB0
    try dsimp only [List.append]
    refine wp_region_since W0 (Below.refl _ _) (by kernel_rfl) (by kernel_rfl) ?_
    repeat (go_big_quiet_step (first | (go_at_call 73; exact Calls.since (HPs.out _)) | (go_at_call 74; exact Calls.since (HQs.out _)) | (go_at_call 75; exact Calls.since (HE.out _))))
    refine wpQuiet_nil ?_
    rintro w5 ⟨i5, hi5⟩
    have hb5 : Below W0.heap.size W0 w5 := hi5 ▸ i5.property
    have hB5 : Below w.heap.size w w5 := hB0.trans (hb5.mono hB0.size)
    clear hi5 i5 s0 s1 s2 HE HPs HQs hb5
    go_wp2_with fail
    go_ret
    exact ⟨rfl, hB5⟩
  · replace HS := Lib.hid HS
    replace HT := Lib.hid HT
    go_enter Try.func12, Try.ntmps12
    go_wp2_with fail
    refine (HS.out _ (by repeat (first | (with_reducible exact Below.refl _ _) | (with_reducible assumption) | (with_reducible refine Below.drew ?_) | (with_reducible refine below_drewN ?_ _) | ((with_reducible refine Below.setCell ?_ ?_ _); rotate_left; (next => first | omega | exact Nat.le_refl _ | (refine Below.size (B := ?_) ?_; rotate_left; assumption) | (simp; done) | (simp; omega))) | ((with_reducible refine Below.alloc ?_ ?_ _); rotate_left; (next => first | omega | exact Nat.le_refl _ | (refine Below.size (B := ?_) ?_; rotate_left; assumption) | (simp; done) | (simp; omega))) | ((with_reducible refine Below.trans (b := ?_) ?_ (Below.mono (B := ?_) ?_ ?_)); rotate_left 3; (next => (with_reducible assumption)); (next => first | omega | exact Nat.le_refl _ | (refine Below.size (B := ?_) ?_; rotate_left; assumption) | (simp; done) | (simp; omega))) | exact Below.refl _ _ | assumption | refine Below.drew ?_ | refine below_drewN ?_ _ | refine Below.alloc ?_ (by first | omega | exact Below.size (by assumption) | (simp; done) | (simp; omega)) _ | refine Below.setCell ?_ (by first | omega | exact Below.size (by assumption) | (simp; done) | (simp; omega)) _ | refine Below.trans ?_ (Below.mono (by assumption) (by first | omega | exact Below.size (by assumption) | (simp; done) | (simp; omega)))))).mono ?_
    rintro e w1 ⟨A1, c1, rfl, hl1, hr1, hb1⟩
    have c1_0 := fun o => Below.cell hb1 (p := ⟨w.heap.size, o, none⟩) (by first | omega | exact Below.size (by assumption) | (simp; done) | (simp; omega))
    have l1_0 : w.heap.size < w1.heap.size := Nat.lt_of_lt_of_le (by first | omega | exact Below.size (by assumption) | (simp; done) | (simp; omega)) (Below.size hb1)
    have c1_1 := fun o => Below.cell hb1 (p := ⟨w.heap.size + 1, o, none⟩) (by first | omega | exact Below.size (by assumption) | (simp; done) | (simp; omega))
    have l1_1 : w.heap.size + 1 < w1.heap.size := Nat.lt_of_lt_of_le (by first | omega | exact Below.size (by assumption) | (simp; done) | (simp; omega)) (Below.size hb1)
    have hB1 : Below w.heap.size w w1 := (by repeat (first | (with_reducible exact Below.refl _ _) | (with_reducible assumption) | (with_reducible refine Below.drew ?_) | (with_reducible refine below_drewN ?_ _) | ((with_reducible refine Below.setCell ?_ ?_ _); rotate_left; (next => first | omega | exact Nat.le_refl _ | (refine Below.size (B := ?_) ?_; rotate_left; assumption) | (simp; done) | (simp; omega))) | ((with_reducible refine Below.alloc ?_ ?_ _); rotate_left; (next => first | omega | exact Nat.le_refl _ | (refine Below.size (B := ?_) ?_; rotate_left; assumption) | (simp; done) | (simp; omega))) | ((with_reducible refine Below.trans (b := ?_) ?_ (Below.mono (B := ?_) ?_ ?_)); rotate_left 3; (next => (with_reducible assumption)); (next => first | omega | exact Nat.le_refl _ | (refine Below.size (B := ?_) ?_; rotate_left; assumption) | (simp; done) | (simp; omega)))))
    have k1 : w.heap.size + 1 < w1.heap.size := l1_1
    have Hr1 := Lib.hid hr1
    clear hr1
    go_wp2_with fail
    refine (HT.out _ (hB1.alloc hB1.size _)).mono ?_
    rintro e w2 ⟨A2, c2, rfl, hl2, hr2, hb2⟩
    have c2_0 := fun o => Below.cell hb2 (p := ⟨w.heap.size, o, none⟩) (by first | omega | exact Below.size (by assumption) | (simp; done) | (simp; omega))
    have l2_0 : w.heap.size < w2.heap.size := Nat.lt_of_lt_of_le (by first | omega | exact Below.size (by assumption) | (simp; done) | (simp; omega)) (Below.size hb2)
    have c2_1 := fun o => Below.cell hb2 (p := ⟨w.heap.size + 1, o, none⟩) (by first | omega | exact Below.size (by assumption) | (simp; done) | (simp; omega))
    have l2_1 : w.heap.size + 1 < w2.heap.size := Nat.lt_of_lt_of_le (by first | omega | exact Below.size (by assumption) | (simp; done) | (simp; omega)) (Below.size hb2)
    have c2_2 := fun o => Below.cell hb2 (p := ⟨w1.heap.size, o, none⟩) (by first | omega | exact Below.size (by assumption) | (simp; done) | (simp; omega))
    have l2_2 : w1.heap.size < w2.heap.size := Nat.lt_of_lt_of_le (by first | omega | exact Below.size (by assumption) | (simp; done) | (simp; omega)) (Below.size hb2)
    have k2 : w1.heap.size < w2.heap.size := l2_2
    have hB2 : Below w.heap.size w w2 := (hB1.alloc hB1.size _).trans (hb2.mono (by simp; omega))
    have hB12 : Below w1.heap.size w1 w2 := ((Below.refl _ _).alloc (Nat.le_refl _) _).trans (hb2.mono (by simp))
    have Hr2 := Lib.hid hr2
    clear hb1 hb2 hr2
    go_wp2_with fail
    generalize hW : World.alloc w2 _ = W0
    have HW := Lib.hid hW
    clear hW
    have d0 : ∀ o, W0.cell? ⟨w.heap.size, o, none⟩ = (#[.slice A n c, (.int .i64 most), (.int .i64 mb), (.int .i64 drops)] : Array Value)[o]? := fun o => by
      rw [← HW.out, World.cell?_alloc_lt _ _ _ (by simp only; omega), c2_0, World.cell?_alloc_lt _ _ _ (by simp only; omega), c1_0]; simp [go_sem]
    have d1 : ∀ o, W0.cell? ⟨w1.heap.size, o, none⟩ = (#[.slice A1 xs.length c1, (.int .i64 most), (.int .i64 mb), (.int .i64 dr)] : Array Value)[o]? := fun o => by
      rw [← HW.out, World.cell?_alloc_lt _ _ _ (by simp only; omega), c2_2]; simp [go_sem]
    have d2 : ∀ o, W0.cell? ⟨w2.heap.size, o, none⟩ = (#[.slice A2 xs.length c2, (.int .i64 most), (.int .i64 mb), (.int .i64 dr)] : Array Value)[o]? := fun o => by
      rw [← HW.out]; simp [go_sem]
    have d3 : W0.heap.size = w2.heap.size + 1 := by rw [← HW.out]; simp
    have hB0 : Below w.heap.size w W0 := by rw [← HW.out]; exact hB2.alloc hB2.size _
    have HE := Lib.hid fun (i : Since W0) => same_any A1 A2 xs.length c1 c2 xs most mb dr i.val (RdI.below (RdI.below (RdI.below Hr1.out hB12) (by rw [← HW.out]; exact (Below.refl _ _).alloc (Nat.le_refl _) _)) i.property) (RdI.below (RdI.below Hr2.out (by rw [← HW.out]; exact (Below.refl _ _).alloc (Nat.le_refl _) _)) i.property) rfl (by omega)
    clear HW
    have s0 : ∀ (i : Since W0) o, i.val.cell? ⟨w.heap.size, o, none⟩ = (#[.slice A n c, (.int .i64 most), (.int .i64 mb), (.int .i64 drops)] : Array Value)[o]? := fun i o => (since_cell i (by omega) o).trans (d0 o)
    have s1 : ∀ (i : Since W0) o, i.val.cell? ⟨w1.heap.size, o, none⟩ = (#[.slice A1 xs.length c1, (.int .i64 most), (.int .i64 mb), (.int .i64 dr)] : Array Value)[o]? := fun i o => (since_cell i (by omega) o).trans (d1 o)
    have s2 : ∀ (i : Since W0) o, i.val.cell? ⟨w2.heap.size, o, none⟩ = (#[.slice A2 xs.length c2, (.int .i64 most), (.int .i64 mb), (.int .i64 dr)] : Array Value)[o]? := fun i o => (since_cell i (by omega) o).trans (d2 o)
    have HPs := Lib.hid fun (i : Since W0) => HP.out W0 i hB0
    have HQs := Lib.hid fun (i : Since W0) => HQ.out W0 i hB0
    try dsimp only [List.append]
    refine wp_region_since W0 (Below.refl _ _) (by kernel_rfl) (by kernel_rfl) ?_
    repeat (go_big_quiet_step (first | (go_at_call 73; exact Calls.since (HPs.out _)) | (go_at_call 74; exact Calls.since (HQs.out _)) | (go_at_call 75; exact Calls.since (HE.out _))))
    refine wpQuiet_nil ?_
    rintro w5 ⟨i5, hi5⟩
    have hb5 : Below W0.heap.size W0 w5 := hi5 ▸ i5.property
    have hB5 : Below w.heap.size w w5 := hB0.trans (hb5.mono hB0.size)
    clear hi5 i5 s0 s1 s2 HE HPs HQs hb5
    go_wp2_with fail
    go_ret
    exact ⟨rfl, hB5⟩
end Go.Proofs.Ytadjbgdblfblbaa.RingSteps
