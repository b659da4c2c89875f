/- Walk: the reference's JRight. -/
import Derived.Test.YtdfjeoifeladfaaMeterA
import Derived.Lib.MinMax
namespace Go.Proofs.Ytdfjeoifeladfaa.Meter
open Go.RowKit

theorem if_min (x y : Int) : (if y < x then y else x) = min x y := by rw [Int.min_def]; split <;> split <;> omega
theorem if_max (x y : Int) : (if x < y then y else x) = max x y := by rw [Int.max_def]; split <;> split <;> omega
theorem run_min6 {P : Program} (w : World) (ts : Array TypeId) (t : TypeId) (a b c d e f : Int) : (Builtin.min_ ts t #[(.int .i64 a), (.int .i64 b), (.int .i64 c), (.int .i64 d), (.int .i64 e), (.int .i64 f)]).run P w = .ok (.int .i64 (min (min (min (min (min a b) c) d) e) f)) w := by
  simp [Builtin.min_, Builtin.min2, if_min]
theorem run_max3 {P : Program} (w : World) (ts : Array TypeId) (t : TypeId) (a b c : Int) : (Builtin.max_ ts t #[(.int .i64 a), (.int .i64 b), (.int .i64 c)]).run P w = .ok (.int .i64 (max (max a b) c)) w := by
  simp [Builtin.max_, Builtin.max2, if_max]

set_option maxRecDepth 100000 in
set_option maxHeartbeats 4000000 in
theorem jright_any (C B E F S T : Int) (w : World) : Calls Try.prog 18 #[.agg #[(.int .i64 C), (.int .i64 B), (.int .i64 E), (.int .i64 F), (.int .i64 S), (.int .i64 T)]] w fun e w' => e = .returned (.bool (mright C B E F S T)) ∧ Below w.heap.size w w' := by
  have h6 := fun w ts t => run_min6 (P := Try.prog) w ts t C B E F S T
  have h3 := fun w ts t => run_max3 (P := Try.prog) w ts t C B E
  have hm : (0 ≤ C ∧ 0 ≤ B ∧ 0 ≤ E ∧ 0 ≤ F ∧ 0 ≤ S ∧ 0 ≤ T) ↔ 0 ≤ min (min (min (min (min C B) E) F) S) T := by omega
  have hx : (C ≤ 1048576 ∧ B ≤ 1048576 ∧ E ≤ 1048576) ↔ max (max C B) E ≤ 1048576 := by omega
  generalize min (min (min (min (min C B) E) F) S) T = m6 at h6 hm
  generalize max (max C B) E = m3 at h3 hx
  cases hr : mright C B E F S T
  · have h := mt mright_iff.2 (by rw [hr]; decide)
    have h' : m6 < 0 ∨ (0 ≤ m6 ∧ 1048576 < m3) ∨ (0 ≤ m6 ∧ m3 ≤ 1048576 ∧ B < F) ∨ (0 ≤ m6 ∧ m3 ≤ 1048576 ∧ F ≤ B ∧ E < S) ∨ (0 ≤ m6 ∧ m3 ≤ 1048576 ∧ F ≤ B ∧ S ≤ E ∧ 1099511627776 < T) := by omega
    clear hr h hm hx
    rcases h' with g1 | ⟨g1, g2⟩ | ⟨g1, g2, g3⟩ | ⟨g1, g2, g3, g4⟩ | ⟨g1, g2, g3, g4, g5⟩
    all_goals
      go_enter Try.func18, Try.ntmps18
      go_wp2_with fail
      go_ret
      exact ⟨ret_bool (by simp <;> omega), (by repeat (first | (with_reducible exact Below.refl _ _) | (with_reducible assumption) | (with_reducible refine Below.drew ?_) | (with_reducible refine below_drewN ?_ _) | ((with_reducible refine Below.setCell ?_ ?_ _); rotate_left; (next => first | omega | exact Nat.le_refl _ | (refine Below.size (B := ?_) ?_; rotate_left; assumption) | (simp; done) | (simp; omega))) | ((with_reducible refine Below.alloc ?_ ?_ _); rotate_left; (next => first | omega | exact Nat.le_refl _ | (refine Below.size (B := ?_) ?_; rotate_left; assumption) | (simp; done) | (simp; omega))) | ((with_reducible refine Below.trans (b := ?_) ?_ (Below.mono (B := ?_) ?_ ?_)); rotate_left 3; (next => (with_reducible assumption)); (next => first | omega | exact Nat.le_refl _ | (refine Below.size (B := ?_) ?_; rotate_left; assumption) | (simp; done) | (simp; omega)))))⟩
  · have h := mright_iff.1 hr
    have h' : 0 ≤ m6 ∧ m3 ≤ 1048576 ∧ F ≤ B ∧ S ≤ E ∧ T ≤ 1099511627776 := by omega
    obtain ⟨g1, g2, g3, g4, g5⟩ := h'
    clear hr h hm hx
    go_enter Try.func18, Try.ntmps18
    go_wp2_with fail
    go_ret
    exact ⟨ret_bool (by simp [*]), (by repeat (first | (with_reducible exact Below.refl _ _) | (with_reducible assumption) | (with_reducible refine Below.drew ?_) | (with_reducible refine below_drewN ?_ _) | ((with_reducible refine Below.setCell ?_ ?_ _); rotate_left; (next => first | omega | exact Nat.le_refl _ | (refine Below.size (B := ?_) ?_; rotate_left; assumption) | (simp; done) | (simp; omega))) | ((with_reducible refine Below.alloc ?_ ?_ _); rotate_left; (next => first | omega | exact Nat.le_refl _ | (refine Below.size (B := ?_) ?_; rotate_left; assumption) | (simp; done) | (simp; omega))) | ((with_reducible refine Below.trans (b := ?_) ?_ (Below.mono (B := ?_) ?_ ?_)); rotate_left 3; (next => (with_reducible assumption)); (next => first | omega | exact Nat.le_refl _ | (refine Below.size (B := ?_) ?_; rotate_left; assumption) | (simp; done) | (simp; omega)))))⟩
end Go.Proofs.Ytdfjeoifeladfaa.Meter
