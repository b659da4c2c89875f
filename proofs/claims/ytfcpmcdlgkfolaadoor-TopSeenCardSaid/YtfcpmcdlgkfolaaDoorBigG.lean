/- Walk: Mul, the walk. -/
import Derived.Test.YtfcpmcdlgkfolaaDoorBigF
import Derived.Test.YtfcpmcdlgkfolaaDoorBigD
import Derived.StillTailTactics
namespace Go.Proofs.YtfcpmcdlgkfolaaDoor.Big
open Go.RowKit

set_option maxRecDepth 100000 in
set_option maxHeartbeats 8000000 in
theorem mul_raw (b o bx ox by' oy : Nat) (neg0 neg neg' : Bool) (ds0 x y : List Int) (w : World) (h : RawAt w b o neg0 ds0) (hx : RawAt w bx ox neg x) (hy : RawAt w by' oy neg' y) (lx : x.length ≤ 1000) (ly : y.length ≤ 1000) :
    Calls Tryd.prog 98 #[.pointer (some ⟨b, o, none⟩), .pointer (some ⟨bx, ox, none⟩), .pointer (some ⟨by', oy, none⟩)] w (AddRes w b o (sg (neg != neg') (dval x * dval y))) := by
  obtain ⟨A, c, c0, c1, hc, hr⟩ := hx.ex
  obtain ⟨A', c', c0', c1', hc', hr'⟩ := hy.ex
  obtain ⟨n, Hn⟩ : ∃ n, Hid (x.length = n) := ⟨_, Lib.hid rfl⟩
  obtain ⟨m, Hm⟩ : ∃ m, Hid (y.length = m) := ⟨_, Lib.hid rfl⟩
  rw [Hn.out] at c1 hc lx
  rw [Hm.out] at c1' hc' ly
  have Hr := Lib.hid hr
  have Hr' := Lib.hid hr'
  have H := Lib.hid h
  have Hx := Lib.hid hx
  have Hy := Lib.hid hy
  have HT : Hid (∀ W1 A1 c1 zs l, Below w.heap.size w W1 → RdI .u32 W1 A1 zs → l = zs.length → zs.length ≤ c1 → Dig zs → zs.length ≤ 2000 → dval zs = dval x * dval y → Calls Tryd.prog 125 #[.pointer (some ⟨b, o, none⟩)] ((W1.setCell ⟨b, o, none⟩ (.bool (neg != neg'))).setCell ⟨b, o + 1, none⟩ (.slice A1 l c1)) (AddRes w b o (sg (neg != neg') (dval x * dval y)))) :=
    Lib.hid fun W1 A1 c1 zs l k1 k2 kl k3 k4 k5 k6 => by subst kl; rw [← k6]; exact store_trim h k1 k2 k3 k4 (neg != neg') (by omega)
  clear h hx hy hr hr'
  generalize sg (neg != neg') (dval x * dval y) = v at HT ⊢
  go_enter Tryd.func98, Tryd.ntmps98
  go_wp2_with fail
  have hw : IntKind.i64.wrap ((n : Int) + (m : Int)) = (n : Int) + (m : Int) := IntWalk.i64_in _ (by omega)
  go_still_tail 11, (by kernel_rfl)
  change wpList _ _ _ _ _ w.drew
  have hb0 : Below w.heap.size w w.drew := (by repeat (first | (with_reducible exact Below.refl _ _) | (with_reducible assumption) | (with_reducible refine Below.drew ?_) | (with_reducible refine below_drewN ?_ _) | ((with_reducible refine Below.setCell ?_ ?_ _); rotate_left; (next => first | omega | exact Nat.le_refl _ | (refine Below.size (B := ?_) ?_; rotate_left; assumption) | (simp; done) | (simp; omega))) | ((with_reducible refine Below.alloc ?_ ?_ _); rotate_left; (next => first | omega | exact Nat.le_refl _ | (refine Below.size (B := ?_) ?_; rotate_left; assumption) | (simp; done) | (simp; omega))) | ((with_reducible refine Below.trans (b := ?_) ?_ (Below.mono (B := ?_) ?_ ?_)); rotate_left 3; (next => (with_reducible assumption)); (next => first | omega | exact Nat.le_refl _ | (refine Below.size (B := ?_) ?_; rotate_left; assumption) | (simp; done) | (simp; omega))) | exact Below.refl _ _ | assumption | refine Below.drew ?_ | refine below_drewN ?_ _ | refine Below.alloc ?_ (by first | omega | exact Below.size (by assumption) | (simp; done) | (simp; omega)) _ | refine Below.setCell ?_ (by first | omega | exact Below.size (by assumption) | (simp; done) | (simp; omega)) _ | refine Below.trans ?_ (Below.mono (by assumption) (by first | omega | exact Below.size (by assumption) | (simp; done) | (simp; omega)))))
  clear hw
  go_wp2_with (refine wpList_makeI _ rfl (.tmp 23) (.tmp 23) 179 rfl 200 .u32 4 Tryd.underlying179 infoD (by omega) w.heap.size .i64 .i64 _ _ (n + m) rfl rfl (by omega) (by omega) (by omega) (by simp) ?_; intro w1 hown hb1; have hbw1 : Below w.heap.size w w1 := (by repeat (first | (with_reducible exact Below.refl _ _) | (with_reducible assumption) | (with_reducible refine Below.drew ?_) | (with_reducible refine below_drewN ?_ _) | ((with_reducible refine Below.setCell ?_ ?_ _); rotate_left; (next => first | omega | exact Nat.le_refl _ | (refine Below.size (B := ?_) ?_; rotate_left; assumption) | (simp; done) | (simp; omega))) | ((with_reducible refine Below.alloc ?_ ?_ _); rotate_left; (next => first | omega | exact Nat.le_refl _ | (refine Below.size (B := ?_) ?_; rotate_left; assumption) | (simp; done) | (simp; omega))) | ((with_reducible refine Below.trans (b := ?_) ?_ (Below.mono (B := ?_) ?_ ?_)); rotate_left 3; (next => (with_reducible assumption)); (next => first | omega | exact Nat.le_refl _ | (refine Below.size (B := ?_) ?_; rotate_left; assumption) | (simp; done) | (simp; omega))) | exact Below.refl _ _ | assumption | refine Below.drew ?_ | refine below_drewN ?_ _ | refine Below.alloc ?_ (by first | omega | exact Below.size (by assumption) | (simp; done) | (simp; omega)) _ | refine Below.setCell ?_ (by first | omega | exact Below.size (by assumption) | (simp; done) | (simp; omega)) _ | refine Below.trans ?_ (Below.mono (by assumption) (by first | omega | exact Below.size (by assumption) | (simp; done) | (simp; omega))))); have d3 := (hbw1.cell (p := ⟨bx, ox + 1, none⟩) Hx.out.lt).trans c1; have d5 := (hbw1.cell (p := ⟨by', oy + 1, none⟩) Hy.out.lt).trans c1')
  have Hown : Hid (OwnI w1 w.heap.size 200 .u32 (.slice (some ⟨w.heap.size, 0, none⟩) (n + m) (n + m)) (List.replicate (n + m) 0)) := Lib.hid hown
  clear hown d3 d5
  go_loopw [30] (fun i W => ∃ (k : Nat) (zs : List Int), k ≤ n ∧ i = .int .i64 k ∧ MulInv x y zs k 0 0 ∧ OwnI W w.heap.size 200 .u32 (.slice (some ⟨w.heap.size, 0, none⟩) (n + m) (n + m)) zs ∧ Below w.heap.size w W) (fun i _ => n - (intOf i).toNat)
  case atStart => exact ⟨0, _, by omega, rfl, by have := mul_start x y; rwa [Hn.out, Hm.out] at this, Hown.out, hbw1⟩
  case round =>
    clear Hown hb1 hbw1
    obtain ⟨k, zs, hk, rfl, hinv, hown, hbw⟩ := hrel
    have Hinv := Lib.hid hinv
    have Hown := Lib.hid hown
    have hsz := hown.blk.2.1
    have d3 := (hbw.cell (p := ⟨bx, ox + 1, none⟩) Hx.out.lt).trans c1
    have d5 := (hbw.cell (p := ⟨by', oy + 1, none⟩) Hy.out.lt).trans c1'
    clear hinv hown
    by_cases hlt : k < n
    · have hl : k < x.length := by have := Hn.out; omega
      obtain ⟨g, off, rfl, hcell⟩ := (RdI.below Hr.out hbw).at_ hl
      obtain ⟨hx0, hx1⟩ := Hx.out.dig.get hl
      obtain ⟨u, Hu⟩ : ∃ u, Hid (x[k] = u) := ⟨_, Lib.hid rfl⟩
      rw [Hu.out] at hcell hx0 hx1
      obtain ⟨wo, rfl⟩ : ∃ wo : World, wo = wr := ⟨_, rfl⟩
      go_wp2_with fail
      go_loopw [10, 40] (fun v i W => ∃ (j : Nat) (zs : List Int) (cc : Int), j ≤ m ∧ i = .int .i64 j ∧ v = .int .u64 cc ∧ MulInv x y zs k j cc ∧ OwnI W w.heap.size 200 .u32 (.slice (some ⟨w.heap.size, 0, none⟩) (n + m) (n + m)) zs ∧ Below w.heap.size w W) (fun _ i _ => m - (intOf i).toNat)
      case atStart => exact ⟨0, _, 0, by omega, rfl, rfl, Hinv.out, Hown.out, hbw⟩
      case round =>
        clear Hown Hinv hsz d3 d5 hcell hbw
        obtain ⟨j, zs, cc, hj, rfl, rfl, hinv, hown, hbw⟩ := hrel
        have hcc : 0 ≤ cc ∧ cc < 4294967296 := ⟨hinv.1, hinv.2.1⟩
        obtain ⟨hcc0, hcc1⟩ := hcc
        have hzl : zs.length = n + m := by rw [← Hn.out, ← Hm.out]; exact hinv.2.2.1
        have Hinv := Lib.hid hinv
        have Hown := Lib.hid hown
        have hsz := hown.blk.2.1
        have d5 := (hbw.cell (p := ⟨by', oy + 1, none⟩) Hy.out.lt).trans c1'
        have hdig := hinv.2.2.2.1
        clear hinv hown
        by_cases hltj : j < m
        · have hlj : j < y.length := by have := Hm.out; omega
          have hlz : k + j < zs.length := by omega
          obtain ⟨g', off', rfl, hcell'⟩ := (RdI.below Hr'.out hbw).at_ hlj
          have hq := Hown.out.cell hlz
          have hf := Hown.out.fz (k + j)
          obtain ⟨hy0, hy1⟩ := Hy.out.dig.get hlj
          obtain ⟨hz0, hz1⟩ := hdig.get hlz
          have hS := mul_step Hinv.out Hx.out.dig Hy.out.dig hl hlj hlz rfl
          rw [Hu.out] at hS
          obtain ⟨⟨ht0, ht1, hp0, hp1⟩, hS⟩ := hS
          have HZ := Lib.hid hzl
          have HS := Lib.hid hS
          clear hS
          generalize zs[k + j] = d at hq hz0 hz1 HS ht0 ht1
          generalize y[j] = v at hcell' hy0 hy1 HS ht0 ht1 hp0 hp1
          clear hzl hdig
          go_wp2_with fail
          go_roundw
          case rel => exact ⟨j + 1, _, _, by omega, by go_num, rfl, HS.out, Hown.out.store (k + j) _, (by repeat (first | (with_reducible exact Below.refl _ _) | (with_reducible assumption) | (with_reducible refine Below.drew ?_) | (with_reducible refine below_drewN ?_ _) | ((with_reducible refine Below.setCell ?_ ?_ _); rotate_left; (next => first | omega | exact Nat.le_refl _ | (refine Below.size (B := ?_) ?_; rotate_left; assumption) | (simp; done) | (simp; omega))) | ((with_reducible refine Below.alloc ?_ ?_ _); rotate_left; (next => first | omega | exact Nat.le_refl _ | (refine Below.size (B := ?_) ?_; rotate_left; assumption) | (simp; done) | (simp; omega))) | ((with_reducible refine Below.trans (b := ?_) ?_ (Below.mono (B := ?_) ?_ ?_)); rotate_left 3; (next => (with_reducible assumption)); (next => first | omega | exact Nat.le_refl _ | (refine Below.size (B := ?_) ?_; rotate_left; assumption) | (simp; done) | (simp; omega))) | exact Below.refl _ _ | assumption | refine Below.drew ?_ | refine below_drewN ?_ _ | refine Below.alloc ?_ (by first | omega | exact Below.size (by assumption) | (simp; done) | (simp; omega)) _ | refine Below.setCell ?_ (by first | omega | exact Below.size (by assumption) | (simp; done) | (simp; omega)) _ | refine Below.trans ?_ (Below.mono (by assumption) (by first | omega | exact Below.size (by assumption) | (simp; done) | (simp; omega)))))⟩
          case measure => first | (simp [intOf]; done) | (simp [intOf]; omega)
        · obtain rfl : j = m := by omega
          obtain ⟨zk, hq⟩ : ∃ z, wr.cell? ⟨w.heap.size, k + j, none⟩ = some (.int .u32 z) := ⟨_, Hown.out.cell (by omega)⟩
          have hf := Hown.out.fz (k + j)
          have HZ := Lib.hid hzl
          have hinv := Hinv.out
          rw [← Hm.out] at hinv
          have HS := Lib.hid (mul_row hinv hl)
          rw [Hm.out] at HS
          clear hzl hdig hinv
          go_wp2_with fail
          go_roundw
          case rel => exact ⟨k + 1, _, by omega, by go_num, HS.out, Hown.out.store (k + j) _, (by repeat (first | (with_reducible exact Below.refl _ _) | (with_reducible assumption) | (with_reducible refine Below.drew ?_) | (with_reducible refine below_drewN ?_ _) | ((with_reducible refine Below.setCell ?_ ?_ _); rotate_left; (next => first | omega | exact Nat.le_refl _ | (refine Below.size (B := ?_) ?_; rotate_left; assumption) | (simp; done) | (simp; omega))) | ((with_reducible refine Below.alloc ?_ ?_ _); rotate_left; (next => first | omega | exact Nat.le_refl _ | (refine Below.size (B := ?_) ?_; rotate_left; assumption) | (simp; done) | (simp; omega))) | ((with_reducible refine Below.trans (b := ?_) ?_ (Below.mono (B := ?_) ?_ ?_)); rotate_left 3; (next => (with_reducible assumption)); (next => first | omega | exact Nat.le_refl _ | (refine Below.size (B := ?_) ?_; rotate_left; assumption) | (simp; done) | (simp; omega))) | exact Below.refl _ _ | assumption | refine Below.drew ?_ | refine below_drewN ?_ _ | refine Below.alloc ?_ (by first | omega | exact Below.size (by assumption) | (simp; done) | (simp; omega)) _ | refine Below.setCell ?_ (by first | omega | exact Below.size (by assumption) | (simp; done) | (simp; omega)) _ | refine Below.trans ?_ (Below.mono (by assumption) (by first | omega | exact Below.size (by assumption) | (simp; done) | (simp; omega)))))⟩
          case measure => first | (simp [intOf]; done) | (simp [intOf]; omega)
    · obtain rfl : k = n := by omega
      have hinv := Hinv.out
      rw [← Hn.out] at hinv
      have hv := mul_end hinv rfl
      have hzl : zs.length = k + m := by rw [← Hn.out, ← Hm.out]; exact hinv.2.2.1
      obtain ⟨A1, e1, h1, h2, h3, _⟩ := Hown.out.form
      obtain ⟨e2, e3, e4⟩ : some ⟨w.heap.size, 0, none⟩ = A1 ∧ k + m = zs.length ∧ k + m = e1 := by simpa using h1
      have HP := Lib.hid (HT.out wr.drew A1 e1 zs _ hbw.drew h3 e3 h2 hinv.2.2.2.1 (by omega) hv)
      rw [← e2, ← e4] at HP
      obtain ⟨A9, m9, c9, b0, b1, g0, g1⟩ := (H.out.below hbw).cells
      obtain ⟨A8, m8, c8, b2, b3, _⟩ := (Hx.out.below hbw).cells
      obtain ⟨A7, m7, c7, b4, b5, _⟩ := (Hy.out.below hbw).cells
      clear d3 d5 hinv hv hzl h1 h2 h3 e2 e3 e4 Hown Hinv
      cases neg <;> cases neg'
      all_goals
        go_wp2_with fail
        go_region
        all_goals go_wp2_with fail
        all_goals (have hp := HP.out; simp only [World.setCell_drew, show (false != false) = false from rfl, show (false != true) = true from rfl, show (true != false) = true from rfl, show (true != true) = false from rfl] at hp; refine hp.mono ?_; clear hp)
        all_goals rintro e w' ⟨rfl, hi, hu⟩
        all_goals (have HI := Lib.hid hi; have HU := Lib.hid hu; clear hi hu)
        all_goals go_wp2_with fail
        all_goals go_ret
        all_goals exact ⟨rfl, HI.out, HU.out⟩

theorem mul_any (b o bx ox by' oy : Nat) (z x y : Int) (w : World) (h : IntAt w b o z) (hx : IntAt w bx ox x) (hy : IntAt w by' oy y) (sx : Sm x) (sy : Sm y) :
    Calls Tryd.prog 98 #[.pointer (some ⟨b, o, none⟩), .pointer (some ⟨bx, ox, none⟩), .pointer (some ⟨by', oy, none⟩)] w (AddRes w b o (x * y)) := by
  obtain ⟨neg0, ds0, h1, _⟩ := h.ex
  obtain ⟨neg, dx, h2, t2, _, rfl⟩ := hx.ex
  obtain ⟨neg', dy, h3, t3, _, rfl⟩ := hy.ex
  have := mul_raw b o bx ox by' oy neg0 neg neg' ds0 dx dy w h1 h2 h3 (sx.len t2 h2.dig) (sy.len t3 h3.dig)
  rwa [show sg (neg != neg') (dval dx * dval dy) = sg neg (dval dx) * sg neg' (dval dy) from by cases neg <;> cases neg' <;> simp [sg, Int.neg_mul, Int.mul_neg]] at this
end Go.Proofs.YtfcpmcdlgkfolaaDoor.Big
