/- append of a whole slice of integers to an empty one: a copy. As an operation of a list, and of a region that draws. -/
import Derived.Test.YtfcpmcdlgkfolaaDoorZhBigW
import Derived.Deep.RegionLawGrows
import Derived.Outline
import Derived.BigQuiet
import Derived.Deep.QuietTactic
import Derived.Laws.BitsAllLaws
import Derived.Laws.Bits64
namespace Go.Proofs.YtfcpmcdlgkfolaaDoor.Big
open Go.RowKit

end Go.Proofs.YtfcpmcdlgkfolaaDoor.Big

namespace Go.Proofs.YtfcpmcdlgkfolaaDoor.Big
open Go.RowKit

end Go.Proofs.YtfcpmcdlgkfolaaDoor.Big

namespace Go.Proofs.YtfcpmcdlgkfolaaDoor.Big
open Go.RowKit

theorem infoD : (Tryd.prog.info? 200).map (fun i => (i.zero, i.size, i.bytes)) = some (some (.int .u32 0), 1, 4) := by kernel_rfl

end Go.Proofs.YtfcpmcdlgkfolaaDoor.Big

namespace Go.Proofs.YtfcpmcdlgkfolaaDoor.Big
open Go.RowKit

end Go.Proofs.YtfcpmcdlgkfolaaDoor.Big

namespace Go.Proofs.YtfcpmcdlgkfolaaDoor.Big
open Go.RowKit

end Go.Proofs.YtfcpmcdlgkfolaaDoor.Big

namespace Go.Proofs.YtfcpmcdlgkfolaaDoor.Big
open Go.RowKit

/-- A call that hands back digits of the number v, no more than k of them. -/
def DigRes (w : World) (v : Int) (k : Nat) (e : Ending) (w' : World) : Prop :=
  ∃ A c zs, e = .returned (.slice A zs.length c) ∧ zs.length ≤ c ∧ RdI .u32 w' A zs ∧ Dig zs ∧ dval zs = v ∧ zs.length ≤ k ∧ Below w.heap.size w w'
theorem digres_own {w w' : World} {v : Int} {k base : Nat} {e : TypeId} {n c g : Nat} {zs : List Int} (h : OwnI w' base e .u32 (.slice (some ⟨g, 0, none⟩) n c) zs) (hd : Dig zs) (hv : dval zs = v) (hk : zs.length ≤ k) (hb : Below w.heap.size w w') :
    DigRes w v k (.returned (.slice (some ⟨g, 0, none⟩) n c)) w' := by
  obtain ⟨A, c', h1, h2, h3, _⟩ := h.form
  rw [h1]
  exact ⟨A, c', zs, rfl, h2, h3, hd, hv, hk, hb⟩

/-- A sum, as far as digit i. -/
def SumInv (x y zs : List Int) (i : Nat) (cc : Int) : Prop :=
  0 ≤ cc ∧ cc ≤ 1 ∧ zs.length = x.length + 1 ∧ Dig zs ∧ (∀ j, i ≤ j → ∀ hj : j < zs.length, zs[j] = 0) ∧ dval zs + pw i * cc = dval (x.take i) + dval (y.take i)
theorem sum_start (x y : List Int) : SumInv x y (List.replicate (x.length + 1) 0) 0 0 :=
  ⟨by omega, by omega, by simp, Dig.zeros _, fun j _ hj => by simp, by simp [dval_zeros, dval]⟩
theorem sum_next {x y zs : List Int} {i : Nat} {cc s : Int} (h : SumInv x y zs i cc) (hx : Dig x) (hy : Dig y) (hi : i < x.length) (hs : cc + x[i] + y[i]?.getD 0 = s) :
    SumInv x y (zs.set i (s % 4294967296)) (i + 1) (s / 4294967296) := by
  obtain ⟨h1, h2, h3, h4, h5, h6⟩ := h
  have a1 := hx.get hi
  have a2 : 0 ≤ y[i]?.getD 0 ∧ y[i]?.getD 0 < 4294967296 := by
    by_cases hl : i < y.length
    · rw [getD_lt hl]; exact hy.get hl
    · rw [getD_ge (by omega)]; omega
  have hz : zs[i]'(by omega) = 0 := h5 i (Nat.le_refl _) (by omega)
  refine ⟨by omega, by omega, by simpa using h3, h4.set _ (by omega), fun j hj hl => ?_, ?_⟩
  · rw [get_set_ne (by omega)]
    exact h5 j (by omega) _
  · rw [dval_set (by omega), hz, take_step i, take_step i, getD_lt hi, pw_succ]
    have e : s = s % 4294967296 + 4294967296 * (s / 4294967296) := by omega
    generalize s % 4294967296 = r at e ⊢
    generalize s / 4294967296 = q at e ⊢
    generalize dval (x.take i) = X at *
    generalize dval (y.take i) = Y at *
    generalize dval zs = Z at *
    generalize pw i = P at *
    grind
theorem sum_end {x y zs : List Int} {cc : Int} (h : SumInv x y zs x.length cc) (hle : y.length ≤ x.length) : Dig (zs.set x.length cc) ∧ dval (zs.set x.length cc) = dval x + dval y ∧ (zs.set x.length cc).length = x.length + 1 := by
  obtain ⟨h1, h2, h3, h4, h5, h6⟩ := h
  refine ⟨h4.set _ (by omega), ?_, by simpa using h3⟩
  rw [dval_set (by omega), h5 _ (Nat.le_refl _) (by omega)]
  rw [List.take_of_length_le (Nat.le_refl _), List.take_of_length_le hle] at h6
  rw [← h6]
  simp

set_option maxHeartbeats 4000000 in
theorem sum_ge (A A' : Option Addr) (c c' : Nat) (x y : List Int) (w : World) (hr : RdI .u32 w A x) (hr' : RdI .u32 w A' y) (hx : Dig x) (hy : Dig y) (n m : Nat) (hn : x.length = n) (hm : y.length = m) (lx : n ≤ 10000) (hle : m ≤ n) :
    Calls Tryd.prog 127 #[.slice A n c, .slice A' m c'] w (DigRes w (dval x + dval y) (n + 1)) := by
  have Hr := Lib.hid hr
  have Hr' := Lib.hid hr'
  have Hx := Lib.hid hx
  have Hy := Lib.hid hy
  have Hn := Lib.hid hn
  have Hm := Lib.hid hm
  clear hr hr' hx hy hn hm
  go_enter Tryd.func127, Tryd.ntmps127
  go_wp2_with (refine wpList_makeI _ rfl (.tmp 18) (.tmp 18) 179 rfl 200 .u32 4 Tryd.underlying179 infoD (by omega) w.heap.size .i64 .i64 _ _ (n + 1) rfl rfl (by omega) (by omega) (by omega) (by simp) ?_; intro w1 hown hb1)
  have Hown := Lib.hid hown; clear hown
  go_loopw [6, 22] (fun v i W => ∃ (k : Nat) (zs : List Int) (cc : Int), k ≤ n ∧ i = .int .i64 k ∧ v = .int .u64 cc ∧ SumInv x y zs k cc ∧ OwnI W w.heap.size 200 .u32 (.slice (some ⟨w.heap.size, 0, none⟩) (n + 1) (n + 1)) zs ∧ Below w.heap.size w W) (fun _ i _ => n - (intOf i).toNat)
  case atStart => exact ⟨0, _, 0, by omega, rfl, rfl, by have := sum_start x y; rwa [Hn.out] at this, Hown.out, (by repeat (first | (with_reducible exact Below.refl _ _) | (with_reducible assumption) | (with_reducible refine Below.drew ?_) | (with_reducible refine below_drewN ?_ _) | ((with_reducible refine Below.setCell ?_ ?_ _); rotate_left; (next => first | omega | exact Nat.le_refl _ | (refine Below.size (B := ?_) ?_; rotate_left; assumption) | (simp; done) | (simp; omega))) | ((with_reducible refine Below.alloc ?_ ?_ _); rotate_left; (next => first | omega | exact Nat.le_refl _ | (refine Below.size (B := ?_) ?_; rotate_left; assumption) | (simp; done) | (simp; omega))) | ((with_reducible refine Below.trans (b := ?_) ?_ (Below.mono (B := ?_) ?_ ?_)); rotate_left 3; (next => (with_reducible assumption)); (next => first | omega | exact Nat.le_refl _ | (refine Below.size (B := ?_) ?_; rotate_left; assumption) | (simp; done) | (simp; omega))) | exact Below.refl _ _ | assumption | refine Below.drew ?_ | refine below_drewN ?_ _ | refine Below.alloc ?_ (by first | omega | exact Below.size (by assumption) | (simp; done) | (simp; omega)) _ | refine Below.setCell ?_ (by first | omega | exact Below.size (by assumption) | (simp; done) | (simp; omega)) _ | refine Below.trans ?_ (Below.mono (by assumption) (by first | omega | exact Below.size (by assumption) | (simp; done) | (simp; omega)))))⟩
  case round =>
    obtain ⟨k, zs, cc, hk, rfl, rfl, hinv, hown, hbw⟩ := hrel
    have hcc : 0 ≤ cc ∧ cc ≤ 1 := ⟨hinv.1, hinv.2.1⟩
    obtain ⟨hcc0, hcc1⟩ := hcc
    have hzl : zs.length = n + 1 := by rw [← Hn.out]; exact hinv.2.2.1
    have Hinv := Lib.hid hinv
    have Hown := Lib.hid hown
    have hsz := hown.blk.2.1
    clear hinv hown
    by_cases hlt : k < n
    · have hl : k < x.length := by have := Hn.out; omega
      obtain ⟨g, off, rfl, hcell⟩ := (RdI.below Hr.out hbw).at_ hl
      obtain ⟨zk, hq⟩ : ∃ z, wr.cell? ⟨w.heap.size, k, none⟩ = some (.int .u32 z) := ⟨_, Hown.out.cell (j := k) (by omega)⟩
      have hf := Hown.out.fz k
      obtain ⟨hx0, hx1⟩ := Hx.out.get hl
      have HZ := Lib.hid hzl; clear hzl
      by_cases hlt' : k < m
      · have hl' : k < y.length := by have := Hm.out; omega
        obtain ⟨g', off', rfl, hcell'⟩ := (RdI.below Hr'.out hbw).at_ hl'
        obtain ⟨hy0, hy1⟩ := Hy.out.get hl'
        have HN := Lib.hid (sum_next Hinv.out Hx.out Hy.out hl (s := cc + x[k] + y[k]) (by rw [getD_lt hl']))
        generalize x[k] = u at hcell hx0 hx1 HN
        generalize y[k] = v at hcell' hy0 hy1 HN
        go_wp2_with fail
        go_roundw
        case rel => exact ⟨k + 1, _, _, by omega, by go_num, rfl, HN.out, Hown.out.store k _, (by repeat (first | (with_reducible exact Below.refl _ _) | (with_reducible assumption) | (with_reducible refine Below.drew ?_) | (with_reducible refine below_drewN ?_ _) | ((with_reducible refine Below.setCell ?_ ?_ _); rotate_left; (next => first | omega | exact Nat.le_refl _ | (refine Below.size (B := ?_) ?_; rotate_left; assumption) | (simp; done) | (simp; omega))) | ((with_reducible refine Below.alloc ?_ ?_ _); rotate_left; (next => first | omega | exact Nat.le_refl _ | (refine Below.size (B := ?_) ?_; rotate_left; assumption) | (simp; done) | (simp; omega))) | ((with_reducible refine Below.trans (b := ?_) ?_ (Below.mono (B := ?_) ?_ ?_)); rotate_left 3; (next => (with_reducible assumption)); (next => first | omega | exact Nat.le_refl _ | (refine Below.size (B := ?_) ?_; rotate_left; assumption) | (simp; done) | (simp; omega))) | exact Below.refl _ _ | assumption | refine Below.drew ?_ | refine below_drewN ?_ _ | refine Below.alloc ?_ (by first | omega | exact Below.size (by assumption) | (simp; done) | (simp; omega)) _ | refine Below.setCell ?_ (by first | omega | exact Below.size (by assumption) | (simp; done) | (simp; omega)) _ | refine Below.trans ?_ (Below.mono (by assumption) (by first | omega | exact Below.size (by assumption) | (simp; done) | (simp; omega)))))⟩
        case measure => first | (simp [intOf]; done) | (simp [intOf]; omega)
      · have HN := Lib.hid (sum_next Hinv.out Hx.out Hy.out hl (s := cc + x[k]) (by rw [getD_ge (by have := Hm.out; omega)]; omega))
        generalize x[k] = u at hcell hx0 hx1 HN
        go_wp2_with fail
        go_roundw
        case rel => exact ⟨k + 1, _, _, by omega, by go_num, rfl, HN.out, Hown.out.store k _, (by repeat (first | (with_reducible exact Below.refl _ _) | (with_reducible assumption) | (with_reducible refine Below.drew ?_) | (with_reducible refine below_drewN ?_ _) | ((with_reducible refine Below.setCell ?_ ?_ _); rotate_left; (next => first | omega | exact Nat.le_refl _ | (refine Below.size (B := ?_) ?_; rotate_left; assumption) | (simp; done) | (simp; omega))) | ((with_reducible refine Below.alloc ?_ ?_ _); rotate_left; (next => first | omega | exact Nat.le_refl _ | (refine Below.size (B := ?_) ?_; rotate_left; assumption) | (simp; done) | (simp; omega))) | ((with_reducible refine Below.trans (b := ?_) ?_ (Below.mono (B := ?_) ?_ ?_)); rotate_left 3; (next => (with_reducible assumption)); (next => first | omega | exact Nat.le_refl _ | (refine Below.size (B := ?_) ?_; rotate_left; assumption) | (simp; done) | (simp; omega))) | exact Below.refl _ _ | assumption | refine Below.drew ?_ | refine below_drewN ?_ _ | refine Below.alloc ?_ (by first | omega | exact Below.size (by assumption) | (simp; done) | (simp; omega)) _ | refine Below.setCell ?_ (by first | omega | exact Below.size (by assumption) | (simp; done) | (simp; omega)) _ | refine Below.trans ?_ (Below.mono (by assumption) (by first | omega | exact Below.size (by assumption) | (simp; done) | (simp; omega)))))⟩
        case measure => first | (simp [intOf]; done) | (simp [intOf]; omega)
    · obtain rfl : k = n := by omega
      obtain ⟨zk, hq⟩ : ∃ z, wr.cell? ⟨w.heap.size, k, none⟩ = some (.int .u32 z) := ⟨_, Hown.out.cell (j := k) (by omega)⟩
      have hf := Hown.out.fz k
      have HZ := Lib.hid hzl; clear hzl
      have hinv := Hinv.out
      rw [← Hn.out] at hinv
      have HE := Lib.hid (sum_end hinv (by rw [Hn.out, Hm.out]; omega))
      rw [Hn.out] at HE
      clear hinv
      go_wp2_with fail
      go_ret
      exact digres_own (Hown.out.store k _) HE.out.1 HE.out.2.1 (by rw [HE.out.2.2]; omega) (by repeat (first | (with_reducible exact Below.refl _ _) | (with_reducible assumption) | (with_reducible refine Below.drew ?_) | (with_reducible refine below_drewN ?_ _) | ((with_reducible refine Below.setCell ?_ ?_ _); rotate_left; (next => first | omega | exact Nat.le_refl _ | (refine Below.size (B := ?_) ?_; rotate_left; assumption) | (simp; done) | (simp; omega))) | ((with_reducible refine Below.alloc ?_ ?_ _); rotate_left; (next => first | omega | exact Nat.le_refl _ | (refine Below.size (B := ?_) ?_; rotate_left; assumption) | (simp; done) | (simp; omega))) | ((with_reducible refine Below.trans (b := ?_) ?_ (Below.mono (B := ?_) ?_ ?_)); rotate_left 3; (next => (with_reducible assumption)); (next => first | omega | exact Nat.le_refl _ | (refine Below.size (B := ?_) ?_; rotate_left; assumption) | (simp; done) | (simp; omega))) | exact Below.refl _ _ | assumption | refine Below.drew ?_ | refine below_drewN ?_ _ | refine Below.alloc ?_ (by first | omega | exact Below.size (by assumption) | (simp; done) | (simp; omega)) _ | refine Below.setCell ?_ (by first | omega | exact Below.size (by assumption) | (simp; done) | (simp; omega)) _ | refine Below.trans ?_ (Below.mono (by assumption) (by first | omega | exact Below.size (by assumption) | (simp; done) | (simp; omega)))))

end Go.Proofs.YtfcpmcdlgkfolaaDoor.Big

namespace Go.Proofs.YtfcpmcdlgkfolaaDoor.Big
open Go.RowKit

end Go.Proofs.YtfcpmcdlgkfolaaDoor.Big

namespace Go.Proofs.YtfcpmcdlgkfolaaDoor.Big
open Go.RowKit

end Go.Proofs.YtfcpmcdlgkfolaaDoor.Big
