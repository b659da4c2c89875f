/- The walk of the law RingPlays. -/
import Derived.Test.YtlmnlffbbbcodaaRingPlaysA
import Derived.Test.YtlmnlffbbbcodaaEqInt
namespace Go.Proofs.Ytlmnlffbbbcodaa.RingPlays
open Go.RowKit Go.Proofs.Ytlmnlffbbbcodaa.Big Go.Proofs.Ytlmnlffbbbcodaa.Ring

set_option maxRecDepth 100000 in
set_option maxHeartbeats 2000000 in
theorem walk (most mb : Int) (A : Option Addr) (n c : Nat) (l : List (Int × Int)) (w : World) (hr : Rd w A (l.flatMap c2)) (hn : l.length = n) (hm : n * 16 ≤ 140737488355328) :
    Calls Try.prog 10 #[(.int .i64 most), (.int .i64 mb), .slice A n c] w fun e w' => e = .returned (.bool true) ∧ Below w.heap.size w w' := by
  have HE : Hid (∀ (W : World) (A1 A2 : Option Addr) (m c1 c2 : Nat) (zs : List Int), m ≤ 10000000000000 → zs.length = m → RdI .i64 W A1 zs → RdI .i64 W A2 zs → Calls Try.prog 30 #[.slice A1 m c1, .slice A2 m c2] W fun e w' => e = .returned (.bool true) ∧ ∃ q, w' = W.drewN q) :=
    Lib.hid fun W A1 A2 m c1 c2 zs h0 h1 h2 h3 => equal_ints A1 A2 m c1 c2 zs W h2 h3 h1 (by omega)
  have HS : Hid (∀ (W : World) (A1 A2 : Option Addr) (m c1 c2 : Nat) (zs : List Int) (x y z : Int), m ≤ 1000 → zs.length = m → RdI .i64 W A1 zs → RdI .i64 W A2 zs → Calls Try.prog 59 #[.agg #[.slice A1 m c1, (.int .i64 x), (.int .i64 y), (.int .i64 z)], .agg #[.slice A2 m c2, (.int .i64 x), (.int .i64 y), (.int .i64 z)]] W fun e w' => e = .returned (.bool true) ∧ Below W.heap.size W w') :=
    Lib.hid fun W A1 A2 m c1 c2 zs x y z h0 h1 h2 h3 => same_any A1 A2 m c1 c2 zs x y z W h2 h3 h1 (by omega)
  cases h : right [] most mb 0
  · have HP : Hid (∀ W, Calls Try.prog 57 #[(.int .i64 most), (.int .i64 mb), .slice A n c] W fun e w' => e = .returned (.tuple #[.slice none 0 0, .agg #[.slice none 0 0, (.int .i64 0), (.int .i64 0), (.int .i64 0)], (.int .i64 2)]) ∧ Below W.heap.size W w') := Lib.hid fun W => play_bad A n c most mb W h
    have HQ : Hid (∀ W, Calls Try.prog 58 #[(.int .i64 most), (.int .i64 mb), .slice A n c] W fun e w' => e = .returned (.tuple #[.slice none 0 0, .agg #[.slice none 0 0, (.int .i64 0), (.int .i64 0), (.int .i64 0)], (.int .i64 2)]) ∧ Below W.heap.size W w') := Lib.hid fun W => hplay_bad A n c most mb W h
    clear hr hn h
    go_enter Try.func10, Try.ntmps10
    go_wp2_with fail
    refine (HP.out _).mono ?_
    rintro e w1 ⟨rfl, hb1⟩
    have hB1 : Below w.heap.size w w1 := hb1
    have hs1 := hB1.size
    go_wp2_with fail
    refine (HQ.out _).mono ?_
    rintro e w2 ⟨rfl, hb2⟩
    have hB2 : Below w.heap.size w w2 := (by repeat (first | (with_reducible exact Below.refl _ _) | (with_reducible assumption) | (with_reducible refine Below.drew ?_) | (with_reducible refine below_drewN ?_ _) | ((with_reducible refine Below.setCell ?_ ?_ _); rotate_left; (next => first | omega | exact Nat.le_refl _ | (refine Below.size (B := ?_) ?_; rotate_left; assumption) | (simp; done) | (simp; omega))) | ((with_reducible refine Below.alloc ?_ ?_ _); rotate_left; (next => first | omega | exact Nat.le_refl _ | (refine Below.size (B := ?_) ?_; rotate_left; assumption) | (simp; done) | (simp; omega))) | ((with_reducible refine Below.trans (b := ?_) ?_ (Below.mono (B := ?_) ?_ ?_)); rotate_left 3; (next => (with_reducible assumption)); (next => first | omega | exact Nat.le_refl _ | (refine Below.size (B := ?_) ?_; rotate_left; assumption) | (simp; done) | (simp; omega)))))
    have hs2 := hB2.size
    have c2_0 := fun o => Below.cell hb2 (p := ⟨w1.heap.size, o, none⟩) (by first | omega | exact Below.size (by assumption) | (simp; done) | (simp; omega))
    have l2_0 : w1.heap.size < w2.heap.size := Nat.lt_of_lt_of_le (by first | omega | exact Below.size (by assumption) | (simp; done) | (simp; omega)) (Below.size hb2)
    go_wp2_with fail
    refine (HE.out _ none none 0 0 0 [] (by omega) rfl (.inl rfl) (.inl rfl)).mono ?_
    rintro e w3 ⟨rfl, q, rfl⟩
    go_wp2_with fail
    refine (HS.out _ none none 0 0 0 [] 0 0 0 (by omega) rfl (.inl rfl) (.inl rfl)).mono ?_
    rintro e w3 ⟨rfl, hb3⟩
    go_wp2_with fail
    go_ret
    exact ⟨rfl, (by repeat (first | (with_reducible exact Below.refl _ _) | (with_reducible assumption) | (with_reducible refine Below.drew ?_) | (with_reducible refine below_drewN ?_ _) | ((with_reducible refine Below.setCell ?_ ?_ _); rotate_left; (next => first | omega | exact Nat.le_refl _ | (refine Below.size (B := ?_) ?_; rotate_left; assumption) | (simp; done) | (simp; omega))) | ((with_reducible refine Below.alloc ?_ ?_ _); rotate_left; (next => first | omega | exact Nat.le_refl _ | (refine Below.size (B := ?_) ?_; rotate_left; assumption) | (simp; done) | (simp; omega))) | ((with_reducible refine Below.trans (b := ?_) ?_ (Below.mono (B := ?_) ?_ ?_)); rotate_left 3; (next => (with_reducible assumption)); (next => first | omega | exact Nat.le_refl _ | (refine Below.size (B := ?_) ?_; rotate_left; assumption) | (simp; done) | (simp; omega)))))⟩
  · have HP : Hid (∀ W, Below w.heap.size w W → Calls Try.prog 57 #[(.int .i64 most), (.int .i64 mb), .slice A n c] W fun e w' => PlayR most mb (stt most mb l) W e w') := Lib.hid fun W hW => play_ok A n c l most mb W (Rd.below hr hW) hn hm h
    have HQ : Hid (∀ W, Below w.heap.size w W → Calls Try.prog 58 #[(.int .i64 most), (.int .i64 mb), .slice A n c] W fun e w' => PlayR most mb (stt most mb l) W e w') := Lib.hid fun W hW => hplay_ok A n c l most mb W (Rd.below hr hW) hn hm h
    generalize stt most mb l = s at HP HQ
    obtain ⟨zs, dr, os⟩ := s
    unfold PlayR at HP HQ
    simp only at HP HQ
    obtain ⟨zn, Hzn⟩ : ∃ z, Hid (zs.length = z) := ⟨_, Lib.hid rfl⟩
    obtain ⟨on, Hon⟩ : ∃ z, Hid (os.length = z) := ⟨_, Lib.hid rfl⟩
    rw [Hzn.out, Hon.out] at HP HQ
    clear hr hn h
    go_enter Try.func10, Try.ntmps10
    go_wp2_with fail
    refine (HP.out _ (Below.refl _ _)).mono ?_
    rintro e w1 ⟨A1, c1, A2, c2, rfl, hr1, hr2, hz, ho, hb1⟩
    have Hr1 := Lib.hid hr1
    have Hr2 := Lib.hid hr2
    have hB1 : Below w.heap.size w w1 := hb1
    have hs1 := hB1.size
    clear hr1 hr2
    go_wp2_with fail
    refine (HQ.out _ (by repeat (first | (with_reducible exact Below.refl _ _) | (with_reducible assumption) | (with_reducible refine Below.drew ?_) | (with_reducible refine below_drewN ?_ _) | ((with_reducible refine Below.setCell ?_ ?_ _); rotate_left; (next => first | omega | exact Nat.le_refl _ | (refine Below.size (B := ?_) ?_; rotate_left; assumption) | (simp; done) | (simp; omega))) | ((with_reducible refine Below.alloc ?_ ?_ _); rotate_left; (next => first | omega | exact Nat.le_refl _ | (refine Below.size (B := ?_) ?_; rotate_left; assumption) | (simp; done) | (simp; omega))) | ((with_reducible refine Below.trans (b := ?_) ?_ (Below.mono (B := ?_) ?_ ?_)); rotate_left 3; (next => (with_reducible assumption)); (next => first | omega | exact Nat.le_refl _ | (refine Below.size (B := ?_) ?_; rotate_left; assumption) | (simp; done) | (simp; omega)))))).mono ?_
    rintro e w2 ⟨A3, c3, A4, c4, rfl, hr3, hr4, _, _, hb2⟩
    have Hr3 := Lib.hid hr3
    have Hr4 := Lib.hid hr4
    have hB2 : Below w.heap.size w w2 := (by repeat (first | (with_reducible exact Below.refl _ _) | (with_reducible assumption) | (with_reducible refine Below.drew ?_) | (with_reducible refine below_drewN ?_ _) | ((with_reducible refine Below.setCell ?_ ?_ _); rotate_left; (next => first | omega | exact Nat.le_refl _ | (refine Below.size (B := ?_) ?_; rotate_left; assumption) | (simp; done) | (simp; omega))) | ((with_reducible refine Below.alloc ?_ ?_ _); rotate_left; (next => first | omega | exact Nat.le_refl _ | (refine Below.size (B := ?_) ?_; rotate_left; assumption) | (simp; done) | (simp; omega))) | ((with_reducible refine Below.trans (b := ?_) ?_ (Below.mono (B := ?_) ?_ ?_)); rotate_left 3; (next => (with_reducible assumption)); (next => first | omega | exact Nat.le_refl _ | (refine Below.size (B := ?_) ?_; rotate_left; assumption) | (simp; done) | (simp; omega)))))
    have hs2 := hB2.size
    have hB12 : Below w1.heap.size w1 w2 := ((Below.refl _ _).alloc (Nat.le_refl _) _).trans (hb2.mono (by simp))
    have c2_0 := fun o => Below.cell hb2 (p := ⟨w1.heap.size, o, none⟩) (by first | omega | exact Below.size (by assumption) | (simp; done) | (simp; omega))
    have l2_0 : w1.heap.size < w2.heap.size := Nat.lt_of_lt_of_le (by first | omega | exact Below.size (by assumption) | (simp; done) | (simp; omega)) (Below.size hb2)
    clear hr3 hr4 hb2
    go_wp2_with fail
    refine (HE.out _ _ _ _ _ _ os ho Hon.out (RdI.below (RdI.below Hr1.out hB12) (by repeat (first | (with_reducible exact Below.refl _ _) | (with_reducible assumption) | (with_reducible refine Below.drew ?_) | (with_reducible refine below_drewN ?_ _) | ((with_reducible refine Below.setCell ?_ ?_ _); rotate_left; (next => first | omega | exact Nat.le_refl _ | (refine Below.size (B := ?_) ?_; rotate_left; assumption) | (simp; done) | (simp; omega))) | ((with_reducible refine Below.alloc ?_ ?_ _); rotate_left; (next => first | omega | exact Nat.le_refl _ | (refine Below.size (B := ?_) ?_; rotate_left; assumption) | (simp; done) | (simp; omega))) | ((with_reducible refine Below.trans (b := ?_) ?_ (Below.mono (B := ?_) ?_ ?_)); rotate_left 3; (next => (with_reducible assumption)); (next => first | omega | exact Nat.le_refl _ | (refine Below.size (B := ?_) ?_; rotate_left; assumption) | (simp; done) | (simp; omega)))))) (RdI.below Hr3.out (by repeat (first | (with_reducible exact Below.refl _ _) | (with_reducible assumption) | (with_reducible refine Below.drew ?_) | (with_reducible refine below_drewN ?_ _) | ((with_reducible refine Below.setCell ?_ ?_ _); rotate_left; (next => first | omega | exact Nat.le_refl _ | (refine Below.size (B := ?_) ?_; rotate_left; assumption) | (simp; done) | (simp; omega))) | ((with_reducible refine Below.alloc ?_ ?_ _); rotate_left; (next => first | omega | exact Nat.le_refl _ | (refine Below.size (B := ?_) ?_; rotate_left; assumption) | (simp; done) | (simp; omega))) | ((with_reducible refine Below.trans (b := ?_) ?_ (Below.mono (B := ?_) ?_ ?_)); rotate_left 3; (next => (with_reducible assumption)); (next => first | omega | exact Nat.le_refl _ | (refine Below.size (B := ?_) ?_; rotate_left; assumption) | (simp; done) | (simp; omega))))))).mono ?_
    rintro e w3 ⟨rfl, q, rfl⟩
    go_wp2_with fail
    refine (HS.out _ _ _ _ _ _ zs _ _ _ hz Hzn.out (RdI.below (RdI.below Hr2.out hB12) (by repeat (first | (with_reducible exact Below.refl _ _) | (with_reducible assumption) | (with_reducible refine Below.drew ?_) | (with_reducible refine below_drewN ?_ _) | ((with_reducible refine Below.setCell ?_ ?_ _); rotate_left; (next => first | omega | exact Nat.le_refl _ | (refine Below.size (B := ?_) ?_; rotate_left; assumption) | (simp; done) | (simp; omega))) | ((with_reducible refine Below.alloc ?_ ?_ _); rotate_left; (next => first | omega | exact Nat.le_refl _ | (refine Below.size (B := ?_) ?_; rotate_left; assumption) | (simp; done) | (simp; omega))) | ((with_reducible refine Below.trans (b := ?_) ?_ (Below.mono (B := ?_) ?_ ?_)); rotate_left 3; (next => (with_reducible assumption)); (next => first | omega | exact Nat.le_refl _ | (refine Below.size (B := ?_) ?_; rotate_left; assumption) | (simp; done) | (simp; omega)))))) (RdI.below Hr4.out (by repeat (first | (with_reducible exact Below.refl _ _) | (with_reducible assumption) | (with_reducible refine Below.drew ?_) | (with_reducible refine below_drewN ?_ _) | ((with_reducible refine Below.setCell ?_ ?_ _); rotate_left; (next => first | omega | exact Nat.le_refl _ | (refine Below.size (B := ?_) ?_; rotate_left; assumption) | (simp; done) | (simp; omega))) | ((with_reducible refine Below.alloc ?_ ?_ _); rotate_left; (next => first | omega | exact Nat.le_refl _ | (refine Below.size (B := ?_) ?_; rotate_left; assumption) | (simp; done) | (simp; omega))) | ((with_reducible refine Below.trans (b := ?_) ?_ (Below.mono (B := ?_) ?_ ?_)); rotate_left 3; (next => (with_reducible assumption)); (next => first | omega | exact Nat.le_refl _ | (refine Below.size (B := ?_) ?_; rotate_left; assumption) | (simp; done) | (simp; omega))))))).mono ?_
    rintro e w3 ⟨rfl, hb3⟩
    go_wp2_with fail
    go_ret
    exact ⟨rfl, (by repeat (first | (with_reducible exact Below.refl _ _) | (with_reducible assumption) | (with_reducible refine Below.drew ?_) | (with_reducible refine below_drewN ?_ _) | ((with_reducible refine Below.setCell ?_ ?_ _); rotate_left; (next => first | omega | exact Nat.le_refl _ | (refine Below.size (B := ?_) ?_; rotate_left; assumption) | (simp; done) | (simp; omega))) | ((with_reducible refine Below.alloc ?_ ?_ _); rotate_left; (next => first | omega | exact Nat.le_refl _ | (refine Below.size (B := ?_) ?_; rotate_left; assumption) | (simp; done) | (simp; omega))) | ((with_reducible refine Below.trans (b := ?_) ?_ (Below.mono (B := ?_) ?_ ?_)); rotate_left 3; (next => (with_reducible assumption)); (next => first | omega | exact Nat.le_refl _ | (refine Below.size (B := ?_) ?_; rotate_left; assumption) | (simp; done) | (simp; omega)))))⟩
end Go.Proofs.Ytlmnlffbbbcodaa.RingPlays
