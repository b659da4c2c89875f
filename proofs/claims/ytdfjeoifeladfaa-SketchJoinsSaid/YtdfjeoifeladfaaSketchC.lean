/- Walks: the reference's SameSketch; sketch.New, sketch.Join. -/
import Derived.Test.YtdfjeoifeladfaaSketchB
import Derived.Test.YtdfjeoifeladfaaMemC
namespace Go.Proofs.Ytdfjeoifeladfaa.Sketch
open Go.RowKit Go.Proofs.Ytdfjeoifeladfaa.Big

set_option maxRecDepth 100000 in
set_option maxHeartbeats 1000000 in
theorem same_any (x y : Int) (A B : Option Addr) (n c d : Nat) (zs : List Int) (w : World) (hr : RdI .i64 w A zs) (hr' : RdI .i64 w B zs) (hn : zs.length = n) (hm : n ≤ 140737488355328) :
    Calls Try.prog 21 #[.agg #[(.int .i64 x), (.int .i64 y), .slice A n c], .agg #[(.int .i64 x), (.int .i64 y), .slice B n d]] w fun e w' => e = .returned (.bool true) ∧ Below w.heap.size w w' := by
  have Hn := Lib.hid hn; clear hn
  go_enter Try.func21, Try.ntmps21
  go_wp2_with fail
  generalize hW : World.alloc (World.alloc w _) _ = W0
  have hb0 := named hW
  clear hW
  have c0_0 := fun o => Below.cell hb0 (p := ⟨w.heap.size, o, none⟩) (by first | omega | exact Below.size (by assumption) | (simp; done) | (simp; omega))
  have l0_0 : w.heap.size < W0.heap.size := Nat.lt_of_lt_of_le (by first | omega | exact Below.size (by assumption) | (simp; done) | (simp; omega)) (Below.size hb0)
  have c0_1 := fun o => Below.cell hb0 (p := ⟨w.heap.size + 1, o, none⟩) (by first | omega | exact Below.size (by assumption) | (simp; done) | (simp; omega))
  have l0_1 : w.heap.size + 1 < W0.heap.size := Nat.lt_of_lt_of_le (by first | omega | exact Below.size (by assumption) | (simp; done) | (simp; omega)) (Below.size hb0)
  have hB0 : Below w.heap.size w W0 := (by repeat (first | (with_reducible exact Below.refl _ _) | (with_reducible assumption) | (with_reducible refine Below.drew ?_) | (with_reducible refine below_drewN ?_ _) | ((with_reducible refine Below.setCell ?_ ?_ _); rotate_left; (next => first | omega | exact Nat.le_refl _ | (refine Below.size (B := ?_) ?_; rotate_left; assumption) | (simp; done) | (simp; omega))) | ((with_reducible refine Below.alloc ?_ ?_ _); rotate_left; (next => first | omega | exact Nat.le_refl _ | (refine Below.size (B := ?_) ?_; rotate_left; assumption) | (simp; done) | (simp; omega))) | ((with_reducible refine Below.trans (b := ?_) ?_ (Below.mono (B := ?_) ?_ ?_)); rotate_left 3; (next => (with_reducible assumption)); (next => first | omega | exact Nat.le_refl _ | (refine Below.size (B := ?_) ?_; rotate_left; assumption) | (simp; done) | (simp; omega))) | exact Below.refl _ _ | assumption | refine Below.drew ?_ | refine below_drewN ?_ _ | refine Below.alloc ?_ (by first | omega | exact Below.size (by assumption) | (simp; done) | (simp; omega)) _ | refine Below.setCell ?_ (by first | omega | exact Below.size (by assumption) | (simp; done) | (simp; omega)) _ | refine Below.trans ?_ (Below.mono (by assumption) (by first | omega | exact Below.size (by assumption) | (simp; done) | (simp; omega)))))
  go_loopw [30] (fun i W => ∃ k : Nat, k ≤ n ∧ i = .int .i64 k ∧ ∃ q, W = W0.drewN q) (fun i _ => n - (intOf i).toNat)
  case atStart => exact ⟨0, by omega, rfl, 0, rfl⟩
  case round =>
    obtain ⟨k, hk, rfl, q, rfl⟩ := hrel
    by_cases hlt : k < n
    · have hl : k < zs.length := by have := Hn.out; omega
      obtain ⟨b, off, rfl, hbl, hc⟩ := hr.atw hB0 hl
      obtain ⟨b', off', rfl, hbl', hc'⟩ := hr'.atw hB0 hl
      generalize zs[k] = z at hc hc'
      go_wp2_with fail
      go_quiet (fail)
      go_wp2_with fail
      go_roundw
      case rel => exact ⟨k + 1, by omega, by go_num, _, rfl⟩
      case measure => first | (simp [intOf]; done) | (simp [intOf]; omega)
    · go_wp2_with fail
      go_ret
      exact ⟨rfl, (by repeat (first | (with_reducible exact Below.refl _ _) | (with_reducible assumption) | (with_reducible refine Below.drew ?_) | (with_reducible refine below_drewN ?_ _) | ((with_reducible refine Below.setCell ?_ ?_ _); rotate_left; (next => first | omega | exact Nat.le_refl _ | (refine Below.size (B := ?_) ?_; rotate_left; assumption) | (simp; done) | (simp; omega))) | ((with_reducible refine Below.alloc ?_ ?_ _); rotate_left; (next => first | omega | exact Nat.le_refl _ | (refine Below.size (B := ?_) ?_; rotate_left; assumption) | (simp; done) | (simp; omega))) | ((with_reducible refine Below.trans (b := ?_) ?_ (Below.mono (B := ?_) ?_ ?_)); rotate_left 3; (next => (with_reducible assumption)); (next => first | omega | exact Nat.le_refl _ | (refine Below.size (B := ?_) ?_; rotate_left; assumption) | (simp; done) | (simp; omega))) | exact Below.refl _ _ | assumption | refine Below.drew ?_ | refine below_drewN ?_ _ | refine Below.alloc ?_ (by first | omega | exact Below.size (by assumption) | (simp; done) | (simp; omega)) _ | refine Below.setCell ?_ (by first | omega | exact Below.size (by assumption) | (simp; done) | (simp; omega)) _ | refine Below.trans ?_ (Below.mono (by assumption) (by first | omega | exact Below.size (by assumption) | (simp; done) | (simp; omega)))))⟩

theorem infoS : (Try.prog.info? 33).map (·.size) = some 3 := by kernel_rfl

set_option maxRecDepth 100000 in
set_option maxHeartbeats 1000000 in
theorem new_bad (rows width : Int) (w : World) (h : dims rows width = false) :
    Calls Try.prog 19 #[(.int .i64 rows), (.int .i64 width)] w fun e w' => e = .returned (.tuple #[.agg #[(.int .i64 0), (.int .i64 0), .slice none 0 0], (.int .i64 2)]) ∧ Below w.heap.size w w' := by
  have hn := dims_not h
  have h' : rows < 1 ∨ (1 ≤ rows ∧ 8 < rows) ∨ (1 ≤ rows ∧ rows ≤ 8 ∧ width < 1) ∨ (1 ≤ rows ∧ rows ≤ 8 ∧ 1 ≤ width ∧ 64 < width) := by omega
  clear h hn
  rcases h' with h1 | ⟨h1, h2⟩ | ⟨h1, h2, h3⟩ | ⟨h1, h2, h3, h4⟩
  all_goals
    go_enter Try.func19, Try.ntmps19
    go_wp2_with fail
    refine bodyPost_ret (v := .tuple #[.agg #[(.int .i64 0), (.int .i64 0), .slice none 0 0], (.int .i64 2)]) (by simp [results, Try.results19, go_sem, *]) rfl ?_
    exact ⟨rfl, (by repeat (first | (with_reducible exact Below.refl _ _) | (with_reducible assumption) | (with_reducible refine Below.drew ?_) | (with_reducible refine below_drewN ?_ _) | ((with_reducible refine Below.setCell ?_ ?_ _); rotate_left; (next => first | omega | exact Nat.le_refl _ | (refine Below.size (B := ?_) ?_; rotate_left; assumption) | (simp; done) | (simp; omega))) | ((with_reducible refine Below.alloc ?_ ?_ _); rotate_left; (next => first | omega | exact Nat.le_refl _ | (refine Below.size (B := ?_) ?_; rotate_left; assumption) | (simp; done) | (simp; omega))) | ((with_reducible refine Below.trans (b := ?_) ?_ (Below.mono (B := ?_) ?_ ?_)); rotate_left 3; (next => (with_reducible assumption)); (next => first | omega | exact Nat.le_refl _ | (refine Below.size (B := ?_) ?_; rotate_left; assumption) | (simp; done) | (simp; omega)))))⟩

set_option maxRecDepth 100000 in
set_option maxHeartbeats 1000000 in
theorem new_ok (rows width : Int) (n : Nat) (w : World) (h : dims rows width = true) (hn : rows * width = n) :
    Calls Try.prog 19 #[(.int .i64 rows), (.int .i64 width)] w fun e w' => ∃ b, e = .returned (.tuple #[.agg #[(.int .i64 rows), (.int .i64 width), .slice (some ⟨b, 0, none⟩) n n], (.int .i64 0)]) ∧ OwnI w' w.heap.size 3 .i64 (.slice (some ⟨b, 0, none⟩) n n) (List.replicate n 0) ∧ Below w.heap.size w w' := by
  obtain ⟨⟨a0, a1⟩, b0, b1⟩ := dims_iff.1 h
  obtain ⟨p0, p1⟩ := dims_prod h
  have Hn := Lib.hid hn
  clear h hn
  go_enter Try.func19, Try.ntmps19
  go_wp2_with (first | (refine wpList_makeI _ rfl (.tmp 25) (.tmp 25) 31 rfl 3 .i64 8 Try.underlying31 infoI8 (by omega) w.heap.size .i64 .i64 _ _ n rfl rfl Hn.out Hn.out (by have := Hn.out; omega) (by simp) ?_; intro w1 hown hb1; have c1_0 := fun o => Below.cell hb1 (p := ⟨w.heap.size, o, none⟩) (by first | omega | exact Below.size (by assumption) | (simp; done) | (simp; omega)); have f1_0 := fun o => Below.frozen hb1 (p := ⟨w.heap.size, o, none⟩) (by first | omega | exact Below.size (by assumption) | (simp; done) | (simp; omega)); have l1_0 : w.heap.size < w1.heap.size := Nat.lt_of_lt_of_le (by first | omega | exact Below.size (by assumption) | (simp; done) | (simp; omega)) (Below.size hb1); have hg := hb1.block w.heap.size (by simp); have HO := Lib.hid hown; clear hown) | ((with_reducible refine wpList_storeA (y := .tmp 27) ?_); refine ⟨_, _, _, _, rfl, rfl, hg.trans (top0 _ _), infoS, rfl, by simp [Value.oneCell'], ?_⟩; intro w2 d2 e2 g2 s2 u2))
  have hB1 : Below w.heap.size w w1 := (by repeat (first | (with_reducible exact Below.refl _ _) | (with_reducible assumption) | (with_reducible refine Below.drew ?_) | (with_reducible refine below_drewN ?_ _) | ((with_reducible refine Below.setCell ?_ ?_ _); rotate_left; (next => first | omega | exact Nat.le_refl _ | (refine Below.size (B := ?_) ?_; rotate_left; assumption) | (simp; done) | (simp; omega))) | ((with_reducible refine Below.alloc ?_ ?_ _); rotate_left; (next => first | omega | exact Nat.le_refl _ | (refine Below.size (B := ?_) ?_; rotate_left; assumption) | (simp; done) | (simp; omega))) | ((with_reducible refine Below.trans (b := ?_) ?_ (Below.mono (B := ?_) ?_ ?_)); rotate_left 3; (next => (with_reducible assumption)); (next => first | omega | exact Nat.le_refl _ | (refine Below.size (B := ?_) ?_; rotate_left; assumption) | (simp; done) | (simp; omega))) | exact Below.refl _ _ | assumption | refine Below.drew ?_ | refine below_drewN ?_ _ | refine Below.alloc ?_ (by first | omega | exact Below.size (by assumption) | (simp; done) | (simp; omega)) _ | refine Below.setCell ?_ (by first | omega | exact Below.size (by assumption) | (simp; done) | (simp; omega)) _ | refine Below.trans ?_ (Below.mono (by assumption) (by first | omega | exact Below.size (by assumption) | (simp; done) | (simp; omega)))))
  have hB2 := hB1.trans (u2.below (Nat.le_refl _) hB1.size)
  have Hown : Hid (OwnI w2 w.heap.size 3 .i64 (.slice (some ⟨w.heap.size + 1, 0, none⟩) n n) (List.replicate n 0)) := Lib.hid (OwnI.upd (by simpa using HO.out) u2 (by simp [Value.ownBlock]))
  clear hg g2 u2 HO hb1 hB1
  refine bodyPost_ret (v := .tuple #[.agg #[(.int .i64 rows), (.int .i64 width), .slice (some ⟨w.heap.size + 1, 0, none⟩) n n], (.int .i64 0)]) (by simp [results, Try.results19, go_sem, *]) rfl ?_
  exact ⟨_, rfl, Hown.out, hB2⟩

def sums (a b : List Int) : List Int := List.zipWith (· + ·) a b
def full (a b : List Int) : Bool := (sums a b).any fun n => decide (1099511627776 < n)

end Go.Proofs.Ytdfjeoifeladfaa.Sketch
