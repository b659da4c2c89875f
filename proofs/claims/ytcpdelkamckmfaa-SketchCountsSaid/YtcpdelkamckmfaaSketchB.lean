/- Walks: the reference's VRight and SameSketch. -/
import Derived.Test.YtcpdelkamckmfaaSketchA
import Derived.Outline
namespace Go.Proofs.Ytcpdelkamckmfaa.Sketch
open Go.RowKit

theorem any_succ (p : Int → Bool) (l : List Int) (k : Nat) (h : k < l.length) : (l.take (k + 1)).any p = ((l.take k).any p || p l[k]) := by
  rw [List.take_succ_eq_append_getElem h, List.any_append]
  simp
theorem badCell_f {n : Int} (h : badCell n = false) : 0 ≤ n ∧ n ≤ 1099511627776 := by simp [badCell] at h; omega
theorem badCell_t {n : Int} (h : badCell n = true) : n < 0 ∨ 0 ≤ n ∧ 1099511627776 < n := by simp [badCell] at h; omega

set_option maxRecDepth 100000 in
set_option maxHeartbeats 4000000 in
theorem vright_any (rows width : Int) (A : Option Addr) (n c : Nat) (zs : List Int) (w : World) (hr : RdI .i64 w A zs) (hn : zs.length = n) (hm : n ≤ 140737488355328) :
    Calls Try.prog 64 #[.agg #[(.int .i64 rows), (.int .i64 width), .slice A n c]] w fun e w' => e = .returned (.bool (vright rows width zs)) ∧ Below w.heap.size w w' := by
  have Hn := Lib.hid hn; clear hn
  obtain ⟨ok0, Hok0⟩ : ∃ b, Hid ((dims rows width && ((n : Int) == rows * width)) = b) := ⟨_, Lib.hid rfl⟩
  have HV : Hid (vright rows width zs = (ok0 && !zs.any badCell)) := Lib.hid (by rw [← Hok0.out, vright, Hn.out])
  have key : Hid ((rows < 1 ∧ ok0 = false) ∨ (1 ≤ rows ∧ 9 ≤ rows ∧ ok0 = false) ∨ (1 ≤ rows ∧ rows < 9 ∧ width < 1 ∧ ok0 = false) ∨ (1 ≤ rows ∧ rows < 9 ∧ 1 ≤ width ∧ 65 ≤ width ∧ ok0 = false) ∨ (1 ≤ rows ∧ rows < 9 ∧ 1 ≤ width ∧ width < 65 ∧ 1 ≤ rows * width ∧ rows * width ≤ 512 ∧ ((n : Int) == rows * width) = ok0)) := Lib.hid (by
    rw [← Hok0.out]
    cases hd : dims rows width
    · have := dims_not hd
      simp only [Bool.false_and, and_true]; omega
    · obtain ⟨⟨a0, a1⟩, b0, b1⟩ := dims_iff.1 hd
      have := dims_prod hd
      right; right; right; right
      exact ⟨a0, by omega, b0, by omega, this.1, this.2, by simp⟩)
  clear Hok0
  have key2 : Hid ((rows < 1 ∧ Hid (ok0 = false)) ∨ (1 ≤ rows ∧ 9 ≤ rows ∧ Hid (ok0 = false)) ∨ (1 ≤ rows ∧ rows < 9 ∧ width < 1 ∧ Hid (ok0 = false)) ∨ (1 ≤ rows ∧ rows < 9 ∧ 1 ≤ width ∧ 65 ≤ width ∧ Hid (ok0 = false)) ∨ (1 ≤ rows ∧ rows < 9 ∧ 1 ≤ width ∧ width < 65 ∧ 1 ≤ rows * width ∧ rows * width ≤ 512 ∧ ((n : Int) == rows * width) = ok0)) := key
  clear key
  rcases key2.out with ⟨h1, H7⟩ | ⟨h1, h2, H7⟩ | ⟨h1, h2, h3, H7⟩ | ⟨h1, h2, h3, h4, H7⟩ | ⟨h1, h2, h3, h4, h5, h6, h7⟩
  all_goals clear key2
  all_goals
    go_enter Try.func64, Try.ntmps64
    go_wp2_with fail
    generalize hW : World.alloc w _ = W0
    have hb0 := named hW
    clear hW
    have c0_0 := fun o => Below.cell hb0 (p := ⟨w.heap.size, o, none⟩) (by first | omega | exact Below.size (by assumption) | (simp; done) | (simp; omega))
    have l0_0 : w.heap.size < W0.heap.size := Nat.lt_of_lt_of_le (by first | omega | exact Below.size (by assumption) | (simp; done) | (simp; omega)) (Below.size hb0)
    have hB0 : Below w.heap.size w W0 := (by repeat (first | (with_reducible exact Below.refl _ _) | (with_reducible assumption) | (with_reducible refine Below.drew ?_) | (with_reducible refine below_drewN ?_ _) | ((with_reducible refine Below.setCell ?_ ?_ _); rotate_left; (next => first | omega | exact Nat.le_refl _ | (refine Below.size (B := ?_) ?_; rotate_left; assumption) | (simp; done) | (simp; omega))) | ((with_reducible refine Below.alloc ?_ ?_ _); rotate_left; (next => first | omega | exact Nat.le_refl _ | (refine Below.size (B := ?_) ?_; rotate_left; assumption) | (simp; done) | (simp; omega))) | ((with_reducible refine Below.trans (b := ?_) ?_ (Below.mono (B := ?_) ?_ ?_)); rotate_left 3; (next => (with_reducible assumption)); (next => first | omega | exact Nat.le_refl _ | (refine Below.size (B := ?_) ?_; rotate_left; assumption) | (simp; done) | (simp; omega))) | exact Below.refl _ _ | assumption | refine Below.drew ?_ | refine below_drewN ?_ _ | refine Below.alloc ?_ (by first | omega | exact Below.size (by assumption) | (simp; done) | (simp; omega)) _ | refine Below.setCell ?_ (by first | omega | exact Below.size (by assumption) | (simp; done) | (simp; omega)) _ | refine Below.trans ?_ (Below.mono (by assumption) (by first | omega | exact Below.size (by assumption) | (simp; done) | (simp; omega)))))
    go_loop [3, 39] (fun v i => ∃ k : Nat, k ≤ n ∧ i = .int .i64 k ∧ v = .bool (ok0 && !(zs.take k).any badCell)) (fun _ i => n - (intOf i).toNat)
    case atStart => exact ⟨0, by omega, rfl, by first | (rw [H7.out]; rfl) | simp⟩
    case round =>
      obtain ⟨k, hk, rfl, rfl⟩ := hrel
      by_cases hlt : k < n
      · have hl : k < zs.length := by have := Hn.out; omega
        obtain ⟨b, off, rfl, hbl, hc⟩ := hr.atw hB0 hl
        have Hs := Lib.hid (any_succ badCell zs k hl)
        obtain ⟨x, Hx⟩ : ∃ z, Hid (zs[k] = z) := ⟨_, Lib.hid rfl⟩
        rw [Hx.out] at hc Hs
        obtain ⟨o, Ho⟩ : ∃ o, Hid ((ok0 && !(zs.take k).any badCell) = o) := ⟨_, Lib.hid rfl⟩
        have Hn' : Hid ((ok0 && !(zs.take (k + 1)).any badCell) = (o && !badCell x)) := Lib.hid (by rw [Hs.out, ← Ho.out, Bool.not_or, Bool.and_assoc])
        rw [Ho.out]
        by_cases x0 : 0 ≤ x <;> by_cases x1 : x ≤ 1099511627776 <;> cases o
        all_goals
          go_wp2_with fail
          go_round
          case rel => exact ⟨k + 1, by omega, by go_num, by rw [Hn'.out]; simp [badCell]; try omega⟩
          case measure => first | (simp [intOf]; done) | (simp [intOf]; omega)
      · obtain rfl : k = n := by omega
        have Hf : Hid (vright rows width zs = (ok0 && !(zs.take k).any badCell)) := Lib.hid (by rw [HV.out, List.take_of_length_le (by have := Hn.out; omega)])
        generalize (ok0 && !(zs.take k).any badCell) = o at Hf ⊢
        go_wp2_with fail
        go_ret
        exact ⟨ret_bool Hf.out.symm, hB0⟩
end Go.Proofs.Ytcpdelkamckmfaa.Sketch
