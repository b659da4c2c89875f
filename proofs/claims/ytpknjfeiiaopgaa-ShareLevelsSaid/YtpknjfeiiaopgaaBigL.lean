/- Walk: lessOf. -/
import Derived.Test.YtpknjfeiiaopgaaBigB
import Derived.Laws.Bits64
namespace Go.Proofs.Ytpknjfeiiaopgaa.Big
open Go.RowKit

/-- A difference, as far as digit i. -/
def LessInv (x y zs : List Int) (i : Nat) (cc : Int) : Prop :=
  0 ≤ cc ∧ cc ≤ 1 ∧ zs.length = x.length ∧ Dig zs ∧ (∀ j, i ≤ j → ∀ hj : j < zs.length, zs[j] = 0) ∧ dval zs = dval (x.take i) - dval (y.take i) + pw i * cc
theorem less_start (x y : List Int) : LessInv x y (List.replicate x.length 0) 0 0 :=
  ⟨by omega, by omega, by simp, Dig.zeros _, fun j _ hj => by simp, by simp [dval_zeros, dval]⟩
theorem less_next {x y zs : List Int} {i : Nat} {cc t z cn : Int} (h : LessInv x y zs i cc) (hi : i < x.length) (ht : t = x[i] - cc - y[i]?.getD 0) (hz0 : 0 ≤ z ∧ z < 4294967296) (hcn : 0 ≤ cn ∧ cn ≤ 1) (hz : z = t + 4294967296 * cn) :
    LessInv x y (zs.set i z) (i + 1) cn := by
  obtain ⟨h1, h2, h3, h4, h5, h6⟩ := h
  have hzz : zs[i]'(by omega) = 0 := h5 i (Nat.le_refl _) (by omega)
  refine ⟨hcn.1, hcn.2, by simpa using h3, h4.set _ hz0, fun j hj hl => ?_, ?_⟩
  · rw [get_set_ne (by omega)]
    exact h5 j (by omega) _
  · rw [dval_set (by omega), hzz, take_step i, take_step i, getD_lt hi, pw_succ]
    generalize dval (x.take i) = X at *
    generalize dval (y.take i) = Y at *
    generalize dval zs = Z at *
    generalize pw i = P at *
    generalize y[i]?.getD 0 = v at *
    generalize x[i] = u at *
    subst ht hz
    grind
theorem less_end {x y zs : List Int} {cc : Int} (h : LessInv x y zs x.length cc) (hle : y.length ≤ x.length) (hv : dval y ≤ dval x) : Dig zs ∧ dval zs = dval x - dval y ∧ zs.length = x.length := by
  obtain ⟨h1, h2, h3, h4, h5, h6⟩ := h
  rw [List.take_of_length_le (Nat.le_refl _), List.take_of_length_le hle] at h6
  refine ⟨h4, ?_, h3⟩
  have hlt := dval_lt h4
  rw [h3] at hlt
  have : cc = 0 := by
    by_cases hc : cc = 1
    · subst hc; omega
    · omega
  subst this
  rw [h6]; omega

theorem wrap1 (a : Int) : IntKind.u64.wrap a = a % 18446744073709551616 := IntKind.wrap_u64 a
theorem wrap2 (a b : Int) : IntKind.u64.wrap (IntKind.u64.wrap a - b) = (a - b) % 18446744073709551616 := by
  rw [wrap1, wrap1]
  omega

set_option maxHeartbeats 4000000 in
theorem less_any (A A' : Option Addr) (c c' : Nat) (x y : List Int) (w : World) (hr : RdI .u32 w A x) (hr' : RdI .u32 w A' y) (hx : Dig x) (hy : Dig y) (n m : Nat) (hn : x.length = n) (hm : y.length = m) (lx : n ≤ 10000) (hle : m ≤ n) (hv : dval y ≤ dval x) :
    Calls Try.prog 131 #[.slice A n c, .slice A' m c'] w (DigRes w (dval x - dval y) n) := by
  have Hr := Lib.hid hr
  have Hr' := Lib.hid hr'
  have Hx := Lib.hid hx
  have Hy := Lib.hid hy
  have Hn := Lib.hid hn
  have Hm := Lib.hid hm
  have Hv := Lib.hid hv
  clear hr hr' hx hy hn hm hv
  go_enter Try.func131, Try.ntmps131
  go_wp2_with (refine wpList_makeI _ rfl (.tmp 11) (.tmp 11) 146 rfl 195 .u32 4 Try.underlying146 infoD (by omega) w.heap.size .i64 .i64 _ _ n rfl rfl (by omega) (by omega) (by omega) (by simp) ?_; intro w1 hown hb1)
  have Hown := Lib.hid hown; clear hown
  go_loopw [6, 15] (fun v i W => ∃ (k : Nat) (zs : List Int) (cc : Int), k ≤ n ∧ i = .int .i64 k ∧ v = .int .u64 cc ∧ LessInv x y zs k cc ∧ OwnI W w.heap.size 195 .u32 (.slice (some ⟨w.heap.size, 0, none⟩) n n) zs ∧ Below w.heap.size w W) (fun _ i _ => n - (intOf i).toNat)
  case atStart => exact ⟨0, _, 0, by omega, rfl, rfl, by have := less_start x y; rwa [Hn.out] at this, Hown.out, (by repeat (first | (with_reducible exact Below.refl _ _) | (with_reducible assumption) | (with_reducible refine Below.drew ?_) | (with_reducible refine below_drewN ?_ _) | ((with_reducible refine Below.setCell ?_ ?_ _); rotate_left; (next => first | omega | exact Nat.le_refl _ | (refine Below.size (B := ?_) ?_; rotate_left; assumption) | (simp; done) | (simp; omega))) | ((with_reducible refine Below.alloc ?_ ?_ _); rotate_left; (next => first | omega | exact Nat.le_refl _ | (refine Below.size (B := ?_) ?_; rotate_left; assumption) | (simp; done) | (simp; omega))) | ((with_reducible refine Below.trans (b := ?_) ?_ (Below.mono (B := ?_) ?_ ?_)); rotate_left 3; (next => (with_reducible assumption)); (next => first | omega | exact Nat.le_refl _ | (refine Below.size (B := ?_) ?_; rotate_left; assumption) | (simp; done) | (simp; omega))) | exact Below.refl _ _ | assumption | refine Below.drew ?_ | refine below_drewN ?_ _ | refine Below.alloc ?_ (by first | omega | exact Below.size (by assumption) | (simp; done) | (simp; omega)) _ | refine Below.setCell ?_ (by first | omega | exact Below.size (by assumption) | (simp; done) | (simp; omega)) _ | refine Below.trans ?_ (Below.mono (by assumption) (by first | omega | exact Below.size (by assumption) | (simp; done) | (simp; omega)))))⟩
  case round =>
    obtain ⟨k, zs, cc, hk, rfl, rfl, hinv, hown, hbw⟩ := hrel
    have hcc : 0 ≤ cc ∧ cc ≤ 1 := ⟨hinv.1, hinv.2.1⟩
    obtain ⟨hcc0, hcc1⟩ := hcc
    have hzl : zs.length = n := by rw [← Hn.out]; exact hinv.2.2.1
    have Hinv := Lib.hid hinv
    have Hown := Lib.hid hown
    have hsz := hown.blk.2.1
    clear hinv hown
    by_cases hlt : k < n
    · have hl : k < x.length := by have := Hn.out; omega
      obtain ⟨g, off, rfl, hcell⟩ := (RdI.below Hr.out hbw).at_ hl
      obtain ⟨zk, hq⟩ : ∃ z, wr.cell? ⟨w.heap.size, k, none⟩ = some (.int .u32 z) := ⟨_, Hown.out.cell (j := k) (by omega)⟩
      have hf := Hown.out.fz k
      obtain ⟨hx0, hx1⟩ := Hx.out.get hl
      have HZ := Lib.hid hzl; clear hzl
      by_cases hlt' : k < m
      · have hl' : k < y.length := by have := Hm.out; omega
        obtain ⟨g', off', rfl, hcell'⟩ := (RdI.below Hr'.out hbw).at_ hl'
        obtain ⟨hy0, hy1⟩ := Hy.out.get hl'
        have HN := Lib.hid (fun z cn => less_next (z := z) (cn := cn) Hinv.out hl (t := x[k] - cc - y[k]) (by rw [getD_lt hl']))
        generalize x[k] = u at hcell hx0 hx1 HN
        generalize y[k] = v at hcell' hy0 hy1 HN
        go_wp2_with fail
        go_roundw
        case rel => exact ⟨k + 1, _, _, by omega, by go_num, rfl, HN.out _ _ (by rw [wrap2]; omega) (by rw [wrap2]; omega) (by rw [wrap2]; omega), Hown.out.store k _, (by repeat (first | (with_reducible exact Below.refl _ _) | (with_reducible assumption) | (with_reducible refine Below.drew ?_) | (with_reducible refine below_drewN ?_ _) | ((with_reducible refine Below.setCell ?_ ?_ _); rotate_left; (next => first | omega | exact Nat.le_refl _ | (refine Below.size (B := ?_) ?_; rotate_left; assumption) | (simp; done) | (simp; omega))) | ((with_reducible refine Below.alloc ?_ ?_ _); rotate_left; (next => first | omega | exact Nat.le_refl _ | (refine Below.size (B := ?_) ?_; rotate_left; assumption) | (simp; done) | (simp; omega))) | ((with_reducible refine Below.trans (b := ?_) ?_ (Below.mono (B := ?_) ?_ ?_)); rotate_left 3; (next => (with_reducible assumption)); (next => first | omega | exact Nat.le_refl _ | (refine Below.size (B := ?_) ?_; rotate_left; assumption) | (simp; done) | (simp; omega))) | exact Below.refl _ _ | assumption | refine Below.drew ?_ | refine below_drewN ?_ _ | refine Below.alloc ?_ (by first | omega | exact Below.size (by assumption) | (simp; done) | (simp; omega)) _ | refine Below.setCell ?_ (by first | omega | exact Below.size (by assumption) | (simp; done) | (simp; omega)) _ | refine Below.trans ?_ (Below.mono (by assumption) (by first | omega | exact Below.size (by assumption) | (simp; done) | (simp; omega)))))⟩
        case measure => first | (simp [intOf]; done) | (simp [intOf]; omega)
      · have HN := Lib.hid (fun z cn => less_next (z := z) (cn := cn) Hinv.out hl (t := x[k] - cc) (by rw [getD_ge (by have := Hm.out; omega)]; omega))
        generalize x[k] = u at hcell hx0 hx1 HN
        go_wp2_with fail
        go_roundw
        case rel => exact ⟨k + 1, _, _, by omega, by go_num, rfl, HN.out _ _ (by rw [wrap1]; omega) (by rw [wrap1]; omega) (by rw [wrap1]; omega), Hown.out.store k _, (by repeat (first | (with_reducible exact Below.refl _ _) | (with_reducible assumption) | (with_reducible refine Below.drew ?_) | (with_reducible refine below_drewN ?_ _) | ((with_reducible refine Below.setCell ?_ ?_ _); rotate_left; (next => first | omega | exact Nat.le_refl _ | (refine Below.size (B := ?_) ?_; rotate_left; assumption) | (simp; done) | (simp; omega))) | ((with_reducible refine Below.alloc ?_ ?_ _); rotate_left; (next => first | omega | exact Nat.le_refl _ | (refine Below.size (B := ?_) ?_; rotate_left; assumption) | (simp; done) | (simp; omega))) | ((with_reducible refine Below.trans (b := ?_) ?_ (Below.mono (B := ?_) ?_ ?_)); rotate_left 3; (next => (with_reducible assumption)); (next => first | omega | exact Nat.le_refl _ | (refine Below.size (B := ?_) ?_; rotate_left; assumption) | (simp; done) | (simp; omega))) | exact Below.refl _ _ | assumption | refine Below.drew ?_ | refine below_drewN ?_ _ | refine Below.alloc ?_ (by first | omega | exact Below.size (by assumption) | (simp; done) | (simp; omega)) _ | refine Below.setCell ?_ (by first | omega | exact Below.size (by assumption) | (simp; done) | (simp; omega)) _ | refine Below.trans ?_ (Below.mono (by assumption) (by first | omega | exact Below.size (by assumption) | (simp; done) | (simp; omega)))))⟩
        case measure => first | (simp [intOf]; done) | (simp [intOf]; omega)
    · obtain rfl : k = n := by omega
      have HZ := Lib.hid hzl; clear hzl
      have hinv := Hinv.out
      rw [← Hn.out] at hinv
      have HE := Lib.hid (less_end hinv (by rw [Hn.out, Hm.out]; omega) Hv.out)
      rw [Hn.out] at HE
      clear hinv
      go_wp2_with fail
      go_ret
      exact digres_own Hown.out HE.out.1 HE.out.2.1 (by rw [HE.out.2.2]; omega) (by repeat (first | (with_reducible exact Below.refl _ _) | (with_reducible assumption) | (with_reducible refine Below.drew ?_) | (with_reducible refine below_drewN ?_ _) | ((with_reducible refine Below.setCell ?_ ?_ _); rotate_left; (next => first | omega | exact Nat.le_refl _ | (refine Below.size (B := ?_) ?_; rotate_left; assumption) | (simp; done) | (simp; omega))) | ((with_reducible refine Below.alloc ?_ ?_ _); rotate_left; (next => first | omega | exact Nat.le_refl _ | (refine Below.size (B := ?_) ?_; rotate_left; assumption) | (simp; done) | (simp; omega))) | ((with_reducible refine Below.trans (b := ?_) ?_ (Below.mono (B := ?_) ?_ ?_)); rotate_left 3; (next => (with_reducible assumption)); (next => first | omega | exact Nat.le_refl _ | (refine Below.size (B := ?_) ?_; rotate_left; assumption) | (simp; done) | (simp; omega))) | exact Below.refl _ _ | assumption | refine Below.drew ?_ | refine below_drewN ?_ _ | refine Below.alloc ?_ (by first | omega | exact Below.size (by assumption) | (simp; done) | (simp; omega)) _ | refine Below.setCell ?_ (by first | omega | exact Below.size (by assumption) | (simp; done) | (simp; omega)) _ | refine Below.trans ?_ (Below.mono (by assumption) (by first | omega | exact Below.size (by assumption) | (simp; done) | (simp; omega)))))
end Go.Proofs.Ytpknjfeiiaopgaa.Big
