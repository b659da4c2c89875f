/- Walks: Add of numbers of unlike signs; Sub. -/
import Derived.Test.YtfcpmcdlgkfolaaDoorBigD
namespace Go.Proofs.YtfcpmcdlgkfolaaDoor.Big
open Go.RowKit

theorem cmp_nonneg {a b : Int} (h : b ≤ a) : 0 ≤ cmp a b := by
  unfold cmp
  split
  · omega
  · split <;> omega
theorem cmp_neg {a b : Int} (h : a < b) : cmp a b < 0 := by
  unfold cmp
  rw [if_pos h]
  omega

set_option maxHeartbeats 4000000 in
theorem add_big (b o bx ox by' oy : Nat) (neg0 neg : Bool) (ds0 x y : List Int) (w : World) (h : RawAt w b o neg0 ds0) (hx : RawAt w bx ox neg x) (hy : RawAt w by' oy (!neg) y) (tx : Trim x) (ty : Trim y) (lx : x.length ≤ 1000) (ly : y.length ≤ 1000) (hv : dval y ≤ dval x) :
    Calls Tryd.prog 100 #[.pointer (some ⟨b, o, none⟩), .pointer (some ⟨bx, ox, none⟩), .pointer (some ⟨by', oy, none⟩)] w (AddRes w b o (sg neg (dval x - dval y))) := by
  have HC : Hid (∀ q, Calls Tryd.prog 128 #[.pointer (some ⟨bx, ox, none⟩), .pointer (some ⟨by', oy, none⟩)] (w.drewN q) fun e w' => e = .returned (.int .i64 (cmp (dval x) (dval y))) ∧ ∃ q', w' = (w.drewN q).drewN q') := Lib.hid fun q => cmpabs_raw bx ox by' oy neg (!neg) x y _ (hx.below (below_drewN (Below.refl _ _) q)) (hy.below (below_drewN (Below.refl _ _) q)) tx ty lx ly
  have hcm : 0 ≤ cmp (dval x) (dval y) := cmp_nonneg hv
  have hln : y.length ≤ x.length := by
    rcases Nat.lt_or_ge x.length y.length with hl | hl
    · have := lt_len hx.dig hy.dig ty hl
      omega
    · exact hl
  obtain ⟨A, c, c0, c1, hc, hr⟩ := hx.ex
  obtain ⟨A', c', c0', c1', hc', hr'⟩ := hy.ex
  obtain ⟨n, Hn⟩ : ∃ n, Hid (x.length = n) := ⟨_, Lib.hid rfl⟩
  obtain ⟨m, Hm⟩ : ∃ m, Hid (y.length = m) := ⟨_, Lib.hid rfl⟩
  rw [Hn.out] at c1 hc lx
  rw [Hm.out] at c1' hc' ly
  have HS : Hid (∀ W, Below w.heap.size w W → Calls Tryd.prog 129 #[.slice A n c, .slice A' m c'] W (DigRes W (dval x - dval y) 2000)) := Lib.hid fun W hW =>
    (less_any A A' c c' x y W (RdI.below hr hW) (RdI.below hr' hW) hx.dig hy.dig n m Hn.out Hm.out (by omega) (by rw [← Hn.out, ← Hm.out]; exact hln) hv).mono fun e w' ⟨a1, a2, a3, a4, a5, a6, a7, a8, a9, aa⟩ => ⟨a1, a2, a3, a4, a5, a6, a7, a8, by omega, aa⟩
  have HT : Hid (∀ W1 A1 c1 zs, Below w.heap.size w W1 → RdI .u32 W1 A1 zs → zs.length ≤ c1 → Dig zs → zs.length ≤ 2000 → dval zs = dval x - dval y → Calls Tryd.prog 125 #[.pointer (some ⟨b, o, none⟩)] ((W1.setCell ⟨b, o, none⟩ (.bool neg)).setCell ⟨b, o + 1, none⟩ (.slice A1 zs.length c1)) (AddRes w b o (sg neg (dval x - dval y)))) :=
    Lib.hid fun W1 A1 c1 zs k1 k2 k3 k4 k5 k6 => by rw [← k6]; exact store_trim h k1 k2 k3 k4 neg (by omega)
  have H := Lib.hid h
  have Hx := Lib.hid hx
  have Hy := Lib.hid hy
  clear h hx hy hr hr' Hn Hm hv tx ty hln
  generalize sg neg (dval x - dval y) = v at HT ⊢
  generalize dval x - dval y = u at HS HT
  generalize cmp (dval x) (dval y) = cm at HC hcm
  cases neg
  all_goals
    go_enter Tryd.func100, Tryd.ntmps100
    go_wp2_with fail
    go_quiet (fail)
    go_wp2_with fail
    refine (HC.out _).mono ?_
    rintro e wq ⟨rfl, q, rfl⟩
    go_wp2_with fail
    go_region_law ((go_simp; go_at_call 129; refine (HS.out _ (by repeat (first | (with_reducible exact Below.refl _ _) | (with_reducible assumption) | (with_reducible refine Below.drew ?_) | (with_reducible refine below_drewN ?_ _) | ((with_reducible refine Below.setCell ?_ ?_ _); rotate_left; (next => first | omega | exact Nat.le_refl _ | (refine Below.size (B := ?_) ?_; rotate_left; assumption) | (simp; done) | (simp; omega))) | ((with_reducible refine Below.alloc ?_ ?_ _); rotate_left; (next => first | omega | exact Nat.le_refl _ | (refine Below.size (B := ?_) ?_; rotate_left; assumption) | (simp; done) | (simp; omega))) | ((with_reducible refine Below.trans (b := ?_) ?_ (Below.mono (B := ?_) ?_ ?_)); rotate_left 3; (next => (with_reducible assumption)); (next => first | omega | exact Nat.le_refl _ | (refine Below.size (B := ?_) ?_; rotate_left; assumption) | (simp; done) | (simp; omega))) | exact Below.refl _ _ | assumption | refine Below.drew ?_ | refine below_drewN ?_ _ | refine Below.alloc ?_ (by first | omega | exact Below.size (by assumption) | (simp; done) | (simp; omega)) _ | refine Below.setCell ?_ (by first | omega | exact Below.size (by assumption) | (simp; done) | (simp; omega)) _ | refine Below.trans ?_ (Below.mono (by assumption) (by first | omega | exact Below.size (by assumption) | (simp; done) | (simp; omega)))))).mono ?_; rintro e w1 ⟨A1, e1, zs, rfl, k3, k2, k4, k6, k5, k7⟩; have hbw : Below w.heap.size w w1 := (by repeat (first | (with_reducible exact Below.refl _ _) | (with_reducible assumption) | (with_reducible refine Below.drew ?_) | (with_reducible refine below_drewN ?_ _) | ((with_reducible refine Below.setCell ?_ ?_ _); rotate_left; (next => first | omega | exact Nat.le_refl _ | (refine Below.size (B := ?_) ?_; rotate_left; assumption) | (simp; done) | (simp; omega))) | ((with_reducible refine Below.alloc ?_ ?_ _); rotate_left; (next => first | omega | exact Nat.le_refl _ | (refine Below.size (B := ?_) ?_; rotate_left; assumption) | (simp; done) | (simp; omega))) | ((with_reducible refine Below.trans (b := ?_) ?_ (Below.mono (B := ?_) ?_ ?_)); rotate_left 3; (next => (with_reducible assumption)); (next => first | omega | exact Nat.le_refl _ | (refine Below.size (B := ?_) ?_; rotate_left; assumption) | (simp; done) | (simp; omega))) | exact Below.refl _ _ | assumption | refine Below.drew ?_ | refine below_drewN ?_ _ | refine Below.alloc ?_ (by first | omega | exact Below.size (by assumption) | (simp; done) | (simp; omega)) _ | refine Below.setCell ?_ (by first | omega | exact Below.size (by assumption) | (simp; done) | (simp; omega)) _ | refine Below.trans ?_ (Below.mono (by assumption) (by first | omega | exact Below.size (by assumption) | (simp; done) | (simp; omega))))); obtain ⟨A9, m9, c9, d0, d1, g0, g1⟩ := (H.out.below hbw).cells; obtain ⟨A8, m8, c8, d2, d3, _⟩ := (Hx.out.below hbw).cells; obtain ⟨A7, m7, c7, d4, d5, _⟩ := (Hy.out.below hbw).cells; have HP := Lib.hid (HT.out w1 A1 e1 zs hbw k2 k3 k4 k5 k6); clear k2 k3 k4 k5 k6 k7))
    all_goals go_wp2_with fail
    all_goals refine HP.out.mono ?_
    all_goals rintro e w' ⟨rfl, hi, hu⟩
    all_goals (have HI := Lib.hid hi; have HU := Lib.hid hu; clear hi hu)
    all_goals go_wp2_with fail
    all_goals go_ret
    all_goals exact ⟨rfl, HI.out, HU.out⟩

set_option maxHeartbeats 4000000 in
theorem add_small (b o bx ox by' oy : Nat) (neg0 neg : Bool) (ds0 x y : List Int) (w : World) (h : RawAt w b o neg0 ds0) (hx : RawAt w bx ox neg x) (hy : RawAt w by' oy (!neg) y) (tx : Trim x) (ty : Trim y) (lx : x.length ≤ 1000) (ly : y.length ≤ 1000) (hv : dval x < dval y) :
    Calls Tryd.prog 100 #[.pointer (some ⟨b, o, none⟩), .pointer (some ⟨bx, ox, none⟩), .pointer (some ⟨by', oy, none⟩)] w (AddRes w b o (sg (!neg) (dval y - dval x))) := by
  have HC : Hid (∀ q, Calls Tryd.prog 128 #[.pointer (some ⟨bx, ox, none⟩), .pointer (some ⟨by', oy, none⟩)] (w.drewN q) fun e w' => e = .returned (.int .i64 (cmp (dval x) (dval y))) ∧ ∃ q', w' = (w.drewN q).drewN q') := Lib.hid fun q => cmpabs_raw bx ox by' oy neg (!neg) x y _ (hx.below (below_drewN (Below.refl _ _) q)) (hy.below (below_drewN (Below.refl _ _) q)) tx ty lx ly
  have hcm : cmp (dval x) (dval y) < 0 := cmp_neg hv
  have hln : x.length ≤ y.length := by
    rcases Nat.lt_or_ge y.length x.length with hl | hl
    · have := lt_len hy.dig hx.dig tx hl
      omega
    · exact hl
  obtain ⟨A, c, c0, c1, hc, hr⟩ := hx.ex
  obtain ⟨A', c', c0', c1', hc', hr'⟩ := hy.ex
  obtain ⟨n, Hn⟩ : ∃ n, Hid (x.length = n) := ⟨_, Lib.hid rfl⟩
  obtain ⟨m, Hm⟩ : ∃ m, Hid (y.length = m) := ⟨_, Lib.hid rfl⟩
  rw [Hn.out] at c1 hc lx
  rw [Hm.out] at c1' hc' ly
  have HS : Hid (∀ W, Below w.heap.size w W → Calls Tryd.prog 129 #[.slice A' m c', .slice A n c] W (DigRes W (dval y - dval x) 2000)) := Lib.hid fun W hW =>
    (less_any A' A c' c y x W (RdI.below hr' hW) (RdI.below hr hW) hy.dig hx.dig m n Hm.out Hn.out (by omega) (by rw [← Hn.out, ← Hm.out]; exact hln) (by omega)).mono fun e w' ⟨a1, a2, a3, a4, a5, a6, a7, a8, a9, aa⟩ => ⟨a1, a2, a3, a4, a5, a6, a7, a8, by omega, aa⟩
  have HT : Hid (∀ W1 A1 c1 zs, Below w.heap.size w W1 → RdI .u32 W1 A1 zs → zs.length ≤ c1 → Dig zs → zs.length ≤ 2000 → dval zs = dval y - dval x → Calls Tryd.prog 125 #[.pointer (some ⟨b, o, none⟩)] ((W1.setCell ⟨b, o, none⟩ (.bool (!neg))).setCell ⟨b, o + 1, none⟩ (.slice A1 zs.length c1)) (AddRes w b o (sg (!neg) (dval y - dval x)))) :=
    Lib.hid fun W1 A1 c1 zs k1 k2 k3 k4 k5 k6 => by rw [← k6]; exact store_trim h k1 k2 k3 k4 (!neg) (by omega)
  have H := Lib.hid h
  have Hx := Lib.hid hx
  have Hy := Lib.hid hy
  clear h hx hy hr hr' Hn Hm hv tx ty hln
  generalize sg (!neg) (dval y - dval x) = v at HT ⊢
  generalize dval y - dval x = u at HS HT
  generalize cmp (dval x) (dval y) = cm at HC hcm
  cases neg
  all_goals
    go_enter Tryd.func100, Tryd.ntmps100
    go_wp2_with fail
    go_quiet (fail)
    go_wp2_with fail
    refine (HC.out _).mono ?_
    rintro e wq ⟨rfl, q, rfl⟩
    go_wp2_with fail
    go_region_law ((go_simp; go_at_call 129; refine (HS.out _ (by repeat (first | (with_reducible exact Below.refl _ _) | (with_reducible assumption) | (with_reducible refine Below.drew ?_) | (with_reducible refine below_drewN ?_ _) | ((with_reducible refine Below.setCell ?_ ?_ _); rotate_left; (next => first | omega | exact Nat.le_refl _ | (refine Below.size (B := ?_) ?_; rotate_left; assumption) | (simp; done) | (simp; omega))) | ((with_reducible refine Below.alloc ?_ ?_ _); rotate_left; (next => first | omega | exact Nat.le_refl _ | (refine Below.size (B := ?_) ?_; rotate_left; assumption) | (simp; done) | (simp; omega))) | ((with_reducible refine Below.trans (b := ?_) ?_ (Below.mono (B := ?_) ?_ ?_)); rotate_left 3; (next => (with_reducible assumption)); (next => first | omega | exact Nat.le_refl _ | (refine Below.size (B := ?_) ?_; rotate_left; assumption) | (simp; done) | (simp; omega))) | exact Below.refl _ _ | assumption | refine Below.drew ?_ | refine below_drewN ?_ _ | refine Below.alloc ?_ (by first | omega | exact Below.size (by assumption) | (simp; done) | (simp; omega)) _ | refine Below.setCell ?_ (by first | omega | exact Below.size (by assumption) | (simp; done) | (simp; omega)) _ | refine Below.trans ?_ (Below.mono (by assumption) (by first | omega | exact Below.size (by assumption) | (simp; done) | (simp; omega)))))).mono ?_; rintro e w1 ⟨A1, e1, zs, rfl, k3, k2, k4, k6, k5, k7⟩; have hbw : Below w.heap.size w w1 := (by repeat (first | (with_reducible exact Below.refl _ _) | (with_reducible assumption) | (with_reducible refine Below.drew ?_) | (with_reducible refine below_drewN ?_ _) | ((with_reducible refine Below.setCell ?_ ?_ _); rotate_left; (next => first | omega | exact Nat.le_refl _ | (refine Below.size (B := ?_) ?_; rotate_left; assumption) | (simp; done) | (simp; omega))) | ((with_reducible refine Below.alloc ?_ ?_ _); rotate_left; (next => first | omega | exact Nat.le_refl _ | (refine Below.size (B := ?_) ?_; rotate_left; assumption) | (simp; done) | (simp; omega))) | ((with_reducible refine Below.trans (b := ?_) ?_ (Below.mono (B := ?_) ?_ ?_)); rotate_left 3; (next => (with_reducible assumption)); (next => first | omega | exact Nat.le_refl _ | (refine Below.size (B := ?_) ?_; rotate_left; assumption) | (simp; done) | (simp; omega))) | exact Below.refl _ _ | assumption | refine Below.drew ?_ | refine below_drewN ?_ _ | refine Below.alloc ?_ (by first | omega | exact Below.size (by assumption) | (simp; done) | (simp; omega)) _ | refine Below.setCell ?_ (by first | omega | exact Below.size (by assumption) | (simp; done) | (simp; omega)) _ | refine Below.trans ?_ (Below.mono (by assumption) (by first | omega | exact Below.size (by assumption) | (simp; done) | (simp; omega))))); obtain ⟨A9, m9, c9, d0, d1, g0, g1⟩ := (H.out.below hbw).cells; obtain ⟨A8, m8, c8, d2, d3, _⟩ := (Hx.out.below hbw).cells; obtain ⟨A7, m7, c7, d4, d5, _⟩ := (Hy.out.below hbw).cells; have HP := Lib.hid (HT.out w1 A1 e1 zs hbw k2 k3 k4 k5 k6); clear k2 k3 k4 k5 k6 k7))
    all_goals go_wp2_with fail
    all_goals refine HP.out.mono ?_
    all_goals rintro e w' ⟨rfl, hi, hu⟩
    all_goals (have HI := Lib.hid hi; have HU := Lib.hid hu; clear hi hu)
    all_goals go_wp2_with fail
    all_goals go_ret
    all_goals exact ⟨rfl, HI.out, HU.out⟩
end Go.Proofs.YtfcpmcdlgkfolaaDoor.Big
