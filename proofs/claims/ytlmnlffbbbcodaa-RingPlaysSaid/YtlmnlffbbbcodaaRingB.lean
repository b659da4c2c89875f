/- Walk: ring.Step. -/
import Derived.Test.YtlmnlffbbbcodaaRingA
namespace Go.Proofs.Ytlmnlffbbbcodaa.Ring
open Go.RowKit Go.Proofs.Ytlmnlffbbbcodaa.Big

/-- A call that refuses. -/
def Ref (er : Int) : Value := .tuple #[.agg #[.slice none 0 0, (.int .i64 0), (.int .i64 0), (.int .i64 0)], (.int .i64 0), (.int .i64 er)]

set_option maxRecDepth 100000 in
set_option maxHeartbeats 1000000 in
theorem step_form (A : Option Addr) (n c : Nat) (zs : List Int) (most mb drops kind v : Int) (w : World) (hr : RdI .i64 w A zs) (hn : zs.length = n) (hm : n ≤ 140737488355328) (h : right zs most mb drops = false) :
    Calls Try.prog 90 #[.agg #[.slice A n c, (.int .i64 most), (.int .i64 mb), (.int .i64 drops)], .agg #[(.int .i64 kind), (.int .i64 v)]] w fun e w' => e = .returned (.tuple #[.agg #[.slice none 0 0, (.int .i64 0), (.int .i64 0), (.int .i64 0)], (.int .i64 0), (.int .i64 1)]) ∧ Below w.heap.size w w' := by
  have HR : Hid (∀ W, Below w.heap.size w W → Calls Try.prog 89 #[.agg #[.slice A n c, (.int .i64 most), (.int .i64 mb), (.int .i64 drops)]] W fun e w' => e = .returned (.bool false) ∧ Below W.heap.size W w') := Lib.hid fun W hW => h ▸ right_any A n c zs most mb drops W (hr.below hW) hn hm
  have HN : Hid (∀ W, Calls Try.prog 113 #[(.int .i64 1)] W fun e w' => e = .returned (.tuple #[.agg #[.slice none 0 0, (.int .i64 0), (.int .i64 0), (.int .i64 0)], (.int .i64 0), (.int .i64 1)]) ∧ Below W.heap.size W w') := Lib.hid fun W => no_any 1 W
  clear hr hn hm h
  go_enter Try.func90, Try.ntmps90
  go_wp2_with fail
  refine (HR.out _ (by repeat (first | (with_reducible exact Below.refl _ _) | (with_reducible assumption) | (with_reducible refine Below.drew ?_) | (with_reducible refine below_drewN ?_ _) | ((with_reducible refine Below.setCell ?_ ?_ _); rotate_left; (next => first | omega | exact Nat.le_refl _ | (refine Below.size (B := ?_) ?_; rotate_left; assumption) | (simp; done) | (simp; omega))) | ((with_reducible refine Below.alloc ?_ ?_ _); rotate_left; (next => first | omega | exact Nat.le_refl _ | (refine Below.size (B := ?_) ?_; rotate_left; assumption) | (simp; done) | (simp; omega))) | ((with_reducible refine Below.trans (b := ?_) ?_ (Below.mono (B := ?_) ?_ ?_)); rotate_left 3; (next => (with_reducible assumption)); (next => first | omega | exact Nat.le_refl _ | (refine Below.size (B := ?_) ?_; rotate_left; assumption) | (simp; done) | (simp; omega))) | exact Below.refl _ _ | assumption | refine Below.drew ?_ | refine below_drewN ?_ _ | refine Below.alloc ?_ (by first | omega | exact Below.size (by assumption) | (simp; done) | (simp; omega)) _ | refine Below.setCell ?_ (by first | omega | exact Below.size (by assumption) | (simp; done) | (simp; omega)) _ | refine Below.trans ?_ (Below.mono (by assumption) (by first | omega | exact Below.size (by assumption) | (simp; done) | (simp; omega)))))).mono ?_
  rintro e w1 ⟨rfl, hb1⟩
  have hB1 : Below w.heap.size w w1 := (by repeat (first | (with_reducible exact Below.refl _ _) | (with_reducible assumption) | (with_reducible refine Below.drew ?_) | (with_reducible refine below_drewN ?_ _) | ((with_reducible refine Below.setCell ?_ ?_ _); rotate_left; (next => first | omega | exact Nat.le_refl _ | (refine Below.size (B := ?_) ?_; rotate_left; assumption) | (simp; done) | (simp; omega))) | ((with_reducible refine Below.alloc ?_ ?_ _); rotate_left; (next => first | omega | exact Nat.le_refl _ | (refine Below.size (B := ?_) ?_; rotate_left; assumption) | (simp; done) | (simp; omega))) | ((with_reducible refine Below.trans (b := ?_) ?_ (Below.mono (B := ?_) ?_ ?_)); rotate_left 3; (next => (with_reducible assumption)); (next => first | omega | exact Nat.le_refl _ | (refine Below.size (B := ?_) ?_; rotate_left; assumption) | (simp; done) | (simp; omega))) | exact Below.refl _ _ | assumption | refine Below.drew ?_ | refine below_drewN ?_ _ | refine Below.alloc ?_ (by first | omega | exact Below.size (by assumption) | (simp; done) | (simp; omega)) _ | refine Below.setCell ?_ (by first | omega | exact Below.size (by assumption) | (simp; done) | (simp; omega)) _ | refine Below.trans ?_ (Below.mono (by assumption) (by first | omega | exact Below.size (by assumption) | (simp; done) | (simp; omega)))))
  have hs1 := hB1.size
  have c1_0 := fun o => Below.cell hb1 (p := ⟨w.heap.size, o, none⟩) (by first | omega | exact Below.size (by assumption) | (simp; done) | (simp; omega))
  have l1_0 : w.heap.size < w1.heap.size := Nat.lt_of_lt_of_le (by first | omega | exact Below.size (by assumption) | (simp; done) | (simp; omega)) (Below.size hb1)
  have c1_1 := fun o => Below.cell hb1 (p := ⟨w.heap.size + 1, o, none⟩) (by first | omega | exact Below.size (by assumption) | (simp; done) | (simp; omega))
  have l1_1 : w.heap.size + 1 < w1.heap.size := Nat.lt_of_lt_of_le (by first | omega | exact Below.size (by assumption) | (simp; done) | (simp; omega)) (Below.size hb1)
  have c1_2 := fun o => Below.cell hb1 (p := ⟨w.heap.size + 1 + 1, o, none⟩) (by first | omega | exact Below.size (by assumption) | (simp; done) | (simp; omega))
  have f1_2 := fun o => Below.frozen hb1 (p := ⟨w.heap.size + 1 + 1, o, none⟩) (by first | omega | exact Below.size (by assumption) | (simp; done) | (simp; omega))
  have l1_2 : w.heap.size + 1 + 1 < w1.heap.size := Nat.lt_of_lt_of_le (by first | omega | exact Below.size (by assumption) | (simp; done) | (simp; omega)) (Below.size hb1)
  have k1 : w.heap.size + 1 + 1 < w1.heap.size := l1_2
  go_wp2_with fail
  refine (HN.out _).mono ?_
  rintro e w2 ⟨rfl, hb2⟩
  have c2_0 := fun o => Below.cell hb2 (p := ⟨w.heap.size + 1 + 1, o, none⟩) (by first | omega | exact Below.size (by assumption) | (simp; done) | (simp; omega))
  have f2_0 := fun o => Below.frozen hb2 (p := ⟨w.heap.size + 1 + 1, o, none⟩) (by first | omega | exact Below.size (by assumption) | (simp; done) | (simp; omega))
  have l2_0 : w.heap.size + 1 + 1 < w2.heap.size := Nat.lt_of_lt_of_le (by first | omega | exact Below.size (by assumption) | (simp; done) | (simp; omega)) (Below.size hb2)
  go_wp2_with fail
  refine bodyPost_ret (v := .tuple #[.agg #[.slice none 0 0, (.int .i64 0), (.int .i64 0), (.int .i64 0)], (.int .i64 0), (.int .i64 1)]) (by simp [results, Try.results90, go_sem, *]) rfl ?_
  exact ⟨rfl, (by repeat (first | (with_reducible exact Below.refl _ _) | (with_reducible assumption) | (with_reducible refine Below.drew ?_) | (with_reducible refine below_drewN ?_ _) | ((with_reducible refine Below.setCell ?_ ?_ _); rotate_left; (next => first | omega | exact Nat.le_refl _ | (refine Below.size (B := ?_) ?_; rotate_left; assumption) | (simp; done) | (simp; omega))) | ((with_reducible refine Below.alloc ?_ ?_ _); rotate_left; (next => first | omega | exact Nat.le_refl _ | (refine Below.size (B := ?_) ?_; rotate_left; assumption) | (simp; done) | (simp; omega))) | ((with_reducible refine Below.trans (b := ?_) ?_ (Below.mono (B := ?_) ?_ ?_)); rotate_left 3; (next => (with_reducible assumption)); (next => first | omega | exact Nat.le_refl _ | (refine Below.size (B := ?_) ?_; rotate_left; assumption) | (simp; done) | (simp; omega)))))⟩
end Go.Proofs.Ytlmnlffbbbcodaa.Ring
