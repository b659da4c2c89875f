/- Walks: ring.sum, Right, the closure of Step; the reference's HBytes, HRight. -/
import Derived.Test.YtoibebmhfcjpfaaGreatDoorZfRingM
import Derived.Test.YtoibebmhfcjpfaaGreatDoorZfIntFn
import Derived.Test.YtoibebmhfcjpfaaGreatDoorZfMemC
import Derived.Test.YtoibebmhfcjpfaaGreatDoorZfReg
import Derived.Outline
import Derived.Deep.Cut
import Derived.BigQuiet
import Derived.Deep.QuietTactic
namespace Go.Proofs.YtoibebmhfcjpfaaGreatDoor.Ring
open Go.RowKit

set_option maxHeartbeats 1000000 in
theorem sum_any (A : Option Addr) (n c : Nat) (zs : List Int) (w : World) (hr : RdI .i64 w A zs) (hn : zs.length = n) (hm : n ≤ 1000000000) (hall : zs.all okp = true) :
    Calls Tryz.prog 60 #[.slice A n c] w fun e w' => e = .returned (.int .i64 (tot zs)) ∧ w = w' := by
  have Hn := Lib.hid hn
  have Hall := Lib.hid hall
  clear hn hall
  go_enter Tryz.func60, Tryz.ntmps60
  go_wp2_with fail
  go_loop [3, 8] (fun s i => ∃ k : Nat, k ≤ n ∧ i = .int .i64 k ∧ s = .int .i64 (tot (zs.take k))) (fun _ i => n - (intOf i).toNat)
  case atStart => exact ⟨0, by omega, rfl, rfl⟩
  case round =>
    obtain ⟨k, hk, rfl, rfl⟩ := hrel
    have hb := tot_bd (l := zs.take k) (by rw [List.all_eq_true]; exact fun x hx => List.all_eq_true.1 Hall.out x (List.mem_of_mem_take hx))
    have hb2 : (zs.take k).length ≤ k := List.length_take_le _ _
    obtain ⟨b0, b1⟩ := hb
    by_cases hlt : k < n
    · have hl : k < zs.length := by have := Hn.out; omega
      obtain ⟨bb, off, rfl, hc⟩ := hr.at_ hl
      obtain ⟨x0, x1⟩ := okp_iff.1 (List.all_eq_true.1 Hall.out _ (List.getElem_mem hl))
      have Ht := Lib.hid (tot_take hl)
      generalize zs[k] = x at hc x0 x1 Ht
      generalize tot (zs.take k) = s at b0 b1 Ht ⊢
      have b2 : s ≤ 1500 * 1000000000 := by omega
      clear b1 hb2
      go_wp2_with fail
      go_round
      case rel => exact ⟨k + 1, by omega, by go_num, by rw [Ht.out]⟩
      case measure => first | (simp [intOf]; done) | (simp [intOf]; omega)
    · have Hf : Hid (tot zs = tot (zs.take k)) := Lib.hid (by rw [List.take_of_length_le (by have := Hn.out; omega)])
      go_wp2_with fail
      go_ret
      exact ⟨ret_int Hf.out.symm, rfl⟩

set_option maxRecDepth 100000 in
set_option maxHeartbeats 2000000 in
theorem right_any (A : Option Addr) (n c : Nat) (zs : List Int) (most mb drops : Int) (w : World) (hr : RdI .i64 w A zs) (hn : zs.length = n) (hm : n ≤ 140737488355328) :
    Calls Tryz.prog 59 #[.agg #[.slice A n c, (.int .i64 most), (.int .i64 mb), (.int .i64 drops)]] w fun e w' => e = .returned (.bool (right zs most mb drops)) ∧ Below w.heap.size w w' := by
  cases hh : hd n most mb drops
  · have hn2 := hd_not hh
    have HV : Hid (right zs most mb drops = false) := Lib.hid (by rw [right, hn, hh]; rfl)
    clear hr hn hm hh
    rcases hn2 with h1 | ⟨h1, h2⟩ | ⟨h1, h2, h3⟩ | ⟨h1, h2, h3, h4⟩ | ⟨h1, h2, h3, h4, h5⟩ | ⟨h1, h2, h3, h4, h5, h6⟩ | ⟨h1, h2, h3, h4, h5, h6, h7⟩
    all_goals
      go_enter Tryz.func59, Tryz.ntmps59
      go_wp2_with fail
      go_ret
      exact ⟨ret_bool HV.out.symm, (by repeat (first | (with_reducible exact Below.refl _ _) | (with_reducible assumption) | (with_reducible refine Below.drew ?_) | (with_reducible refine below_drewN ?_ _) | ((with_reducible refine Below.setCell ?_ ?_ _); rotate_left; (next => first | omega | exact Nat.le_refl _ | (refine Below.size (B := ?_) ?_; rotate_left; assumption) | (simp; done) | (simp; omega))) | ((with_reducible refine Below.alloc ?_ ?_ _); rotate_left; (next => first | omega | exact Nat.le_refl _ | (refine Below.size (B := ?_) ?_; rotate_left; assumption) | (simp; done) | (simp; omega))) | ((with_reducible refine Below.trans (b := ?_) ?_ (Below.mono (B := ?_) ?_ ?_)); rotate_left 3; (next => (with_reducible assumption)); (next => first | omega | exact Nat.le_refl _ | (refine Below.size (B := ?_) ?_; rotate_left; assumption) | (simp; done) | (simp; omega))) | exact Below.refl _ _ | assumption | refine Below.drew ?_ | refine below_drewN ?_ _ | refine Below.alloc ?_ (by first | omega | exact Below.size (by assumption) | (simp; done) | (simp; omega)) _ | refine Below.setCell ?_ (by first | omega | exact Below.size (by assumption) | (simp; done) | (simp; omega)) _ | refine Below.trans ?_ (Below.mono (by assumption) (by first | omega | exact Below.size (by assumption) | (simp; done) | (simp; omega)))))⟩
  · obtain ⟨⟨h1, h2⟩, ⟨h3, h4⟩, ⟨h5, h6⟩, h7⟩ := hd_iff.1 hh
    have HV : Hid (right zs most mb drops = (zs.all okp && decide (tot zs ≤ mb))) := Lib.hid (by rw [right, hn, hh, Bool.true_and])
    have HS : Hid (zs.all okp = true → ∀ W, Below w.heap.size w W → Calls Tryz.prog 60 #[.slice A n c] W fun e w' => e = .returned (.int .i64 (tot zs)) ∧ W = w') := Lib.hid fun ha W hW => sum_any A n c zs W (hr.below hW) hn (by omega) ha
    have Hn := Lib.hid hn
    clear hn hh
    go_enter Tryz.func59, Tryz.ntmps59
    go_wp2_with fail
    generalize hW : World.alloc w _ = W0
    have hb0 := named hW
    clear hW
    have c0_0 := fun o => Below.cell hb0 (p := ⟨w.heap.size, o, none⟩) (by first | omega | exact Below.size (by assumption) | (simp; done) | (simp; omega))
    have l0_0 : w.heap.size < W0.heap.size := Nat.lt_of_lt_of_le (by first | omega | exact Below.size (by assumption) | (simp; done) | (simp; omega)) (Below.size hb0)
    have hB0 : Below w.heap.size w W0 := (by repeat (first | (with_reducible exact Below.refl _ _) | (with_reducible assumption) | (with_reducible refine Below.drew ?_) | (with_reducible refine below_drewN ?_ _) | ((with_reducible refine Below.setCell ?_ ?_ _); rotate_left; (next => first | omega | exact Nat.le_refl _ | (refine Below.size (B := ?_) ?_; rotate_left; assumption) | (simp; done) | (simp; omega))) | ((with_reducible refine Below.alloc ?_ ?_ _); rotate_left; (next => first | omega | exact Nat.le_refl _ | (refine Below.size (B := ?_) ?_; rotate_left; assumption) | (simp; done) | (simp; omega))) | ((with_reducible refine Below.trans (b := ?_) ?_ (Below.mono (B := ?_) ?_ ?_)); rotate_left 3; (next => (with_reducible assumption)); (next => first | omega | exact Nat.le_refl _ | (refine Below.size (B := ?_) ?_; rotate_left; assumption) | (simp; done) | (simp; omega))) | exact Below.refl _ _ | assumption | refine Below.drew ?_ | refine below_drewN ?_ _ | refine Below.alloc ?_ (by first | omega | exact Below.size (by assumption) | (simp; done) | (simp; omega)) _ | refine Below.setCell ?_ (by first | omega | exact Below.size (by assumption) | (simp; done) | (simp; omega)) _ | refine Below.trans ?_ (Below.mono (by assumption) (by first | omega | exact Below.size (by assumption) | (simp; done) | (simp; omega)))))
    go_loop [44] (fun i => ∃ k : Nat, k ≤ n ∧ i = .int .i64 k ∧ (zs.take k).all okp = true) (fun i => n - (intOf i).toNat)
    case atStart => exact ⟨0, by omega, rfl, rfl⟩
    case round =>
      obtain ⟨k, hk, rfl, ha⟩ := hrel
      have Ha := Lib.hid ha; clear ha
      by_cases hlt : k < n
      · have hl : k < zs.length := by have := Hn.out; omega
        obtain ⟨bb, off, rfl, hbl, hc⟩ := hr.atw hB0 hl
        have Hal := Lib.hid (all_take (p := okp) hl)
        obtain ⟨x, Hx⟩ : ∃ x, Hid (zs[k] = x) := ⟨_, Lib.hid rfl⟩
        rw [Hx.out] at hc Hal
        by_cases hx : 1 ≤ x ∧ x ≤ 1500
        · obtain ⟨x0, x1⟩ := hx
          have Ho : Hid (okp x = true) := Lib.hid (okp_iff.2 ⟨x0, x1⟩)
          go_wp2_with fail
          go_round
          case rel => exact ⟨k + 1, by omega, by go_num, by rw [Hal.out, Ha.out, Ho.out]; rfl⟩
          case measure => first | (simp [intOf]; done) | (simp [intOf]; omega)
        · have Ho : Hid (right zs most mb drops = false) := Lib.hid (by
            rw [HV.out, List.all_eq_false.2 ⟨zs[k], List.getElem_mem hl, by rw [Hx.out]; simp only [okp_iff]; exact hx⟩]; rfl)
          by_cases hx0 : x < 1
          · go_wp2_with fail
            go_ret
            exact ⟨ret_bool Ho.out.symm, hB0⟩
          · have hx1 : 1500 < x := by omega
            go_wp2_with fail
            go_ret
            exact ⟨ret_bool Ho.out.symm, hB0⟩
      · have Hall : Hid (zs.all okp = true) := Lib.hid (by have := Ha.out; rwa [List.take_of_length_le (by have := Hn.out; omega)] at this)
        have HSs : Hid (∀ i : Since W0, Calls Tryz.prog 60 #[.slice A n c] i.val fun e w' => e = .returned (.int .i64 (tot zs)) ∧ Below i.val.heap.size i.val w') := Lib.hid fun i => (HS.out Hall.out i.val (hB0.trans (i.property.mono hB0.size))).mono fun e w' ⟨h1, h2⟩ => ⟨h1, h2 ▸ Below.refl _ _⟩
        have s0 : ∀ (i : Since W0) o, i.val.cell? ⟨w.heap.size, o, none⟩ = (#[.slice A n c, (.int .i64 most), (.int .i64 mb), (.int .i64 drops)] : Array Value)[o]? := fun i o => (since_cell i l0_0 o).trans ((c0_0 o).trans (by simp [go_sem]))
        have HV2 : Hid (right zs most mb drops = decide (tot zs ≤ mb)) := Lib.hid (by rw [HV.out, Hall.out, Bool.true_and])
        go_wp2_with fail
        try dsimp only [List.append]
        refine wp_region_since W0 (Below.refl _ _) (by kernel_rfl) (by kernel_rfl) ?_
        repeat (go_big_quiet_step ((go_at_call 60; exact Calls.since (HSs.out _))))
        refine wpQuiet_nil ?_
        rintro w5 ⟨i5, hi5⟩
        have hb5 : Below W0.heap.size W0 w5 := hi5 ▸ i5.property
        clear hi5 i5 s0
        go_wp2_with fail
        go_ret
        exact ⟨ret_bool HV2.out.symm, hB0.trans (hb5.mono hB0.size)⟩

set_option maxRecDepth 100000 in
set_option maxHeartbeats 1000000 in
theorem no_any (er : Int) (w : World) : Calls Tryz.prog 58 #[(.int .i64 er)] w fun e w' => e = .returned (.tuple #[.agg #[.slice none 0 0, (.int .i64 0), (.int .i64 0), (.int .i64 0)], (.int .i64 0), (.int .i64 er)]) ∧ Below w.heap.size w w' := by
  go_enter Tryz.func58, Tryz.ntmps58
  go_wp2_with fail
  refine bodyPost_ret (v := .tuple #[.agg #[.slice none 0 0, (.int .i64 0), (.int .i64 0), (.int .i64 0)], (.int .i64 0), (.int .i64 er)]) (by simp [results, Tryz.results58, go_sem, *]) rfl ?_
  exact ⟨rfl, (by repeat (first | (with_reducible exact Below.refl _ _) | (with_reducible assumption) | (with_reducible refine Below.drew ?_) | (with_reducible refine below_drewN ?_ _) | ((with_reducible refine Below.setCell ?_ ?_ _); rotate_left; (next => first | omega | exact Nat.le_refl _ | (refine Below.size (B := ?_) ?_; rotate_left; assumption) | (simp; done) | (simp; omega))) | ((with_reducible refine Below.alloc ?_ ?_ _); rotate_left; (next => first | omega | exact Nat.le_refl _ | (refine Below.size (B := ?_) ?_; rotate_left; assumption) | (simp; done) | (simp; omega))) | ((with_reducible refine Below.trans (b := ?_) ?_ (Below.mono (B := ?_) ?_ ?_)); rotate_left 3; (next => (with_reducible assumption)); (next => first | omega | exact Nat.le_refl _ | (refine Below.size (B := ?_) ?_; rotate_left; assumption) | (simp; done) | (simp; omega)))))⟩
end Go.Proofs.YtoibebmhfcjpfaaGreatDoor.Ring

namespace Go.Proofs.YtoibebmhfcjpfaaGreatDoor.Ring
open Go.RowKit Go.Proofs.YtoibebmhfcjpfaaGreatDoor.Big

end Go.Proofs.YtoibebmhfcjpfaaGreatDoor.Ring

namespace Go.Proofs.YtoibebmhfcjpfaaGreatDoor.Ring
open Go.RowKit Go.Proofs.YtoibebmhfcjpfaaGreatDoor.Big

theorem OwnI.rd {w : World} {base : Nat} {e : TypeId} {k : IntKind} {A : Option Addr} {n c : Nat} {xs : List Int} (h : OwnI w base e k (.slice A n c) xs) : RdI k w A xs := by
  obtain ⟨A', c', h1, _, h2, _⟩ := h.form
  injection h1 with h3 h4 h5
  rw [h3]; exact h2

theorem OwnI.rdf {w : World} {base B : Nat} {e : TypeId} {k : IntKind} {A : Option Addr} {n c : Nat} {xs : List Int} (hb : B ≤ base) (h : OwnI w base e k (.slice A n c) xs) : RdI k w A xs ∧ ∀ g o s, A = some ⟨g, o, s⟩ → B ≤ g := by
  obtain ⟨A', c', h1, _, h2, h3⟩ := h.form
  injection h1 with h4 h5 h6
  rw [h4]; exact ⟨h2, fun g o s e => Nat.le_trans hb (h3 g o s e)⟩

/-- A call that answers a queue. -/
def StepR (most mb drops r : Int) (xs : List Int) (w : World) (e : Ending) (w' : World) : Prop :=
  ∃ A c, e = .returned (.tuple #[.agg #[.slice A xs.length c, (.int .i64 most), (.int .i64 mb), (.int .i64 drops)], (.int .i64 r), (.int .i64 0)]) ∧ xs.length ≤ c ∧ (RdI .i64 w' A xs ∧ ∀ g o s, A = some ⟨g, o, s⟩ → w.heap.size ≤ g) ∧ Below w.heap.size w w'

theorem right_parts {zs : List Int} {most mb drops : Int} (h : right zs most mb drops = true) : ((0 ≤ most ∧ most ≤ 400) ∧ (0 ≤ mb ∧ mb ≤ 1073741824) ∧ (0 ≤ drops ∧ drops ≤ 1099511627776) ∧ (zs.length : Int) ≤ most) ∧ zs.all okp = true ∧ 0 ≤ tot zs ∧ tot zs ≤ mb := by
  simp only [right, Bool.and_eq_true, decide_eq_true_eq] at h
  exact ⟨hd_iff.1 h.1.1, h.1.2, (tot_bd h.1.2).1, h.2⟩

theorem RdI.tail {k : IntKind} {w : World} {g : Nat} {z : Int} {l : List Int} (h : RdI k w (some ⟨g, 0, none⟩) (z :: l)) : RdI k w (some ⟨g, 1, none⟩) l := by
  rcases h with h0 | ⟨b, off, hA, hc⟩
  · simp at h0
  · injection hA with hA
    injection hA with h1 h2 h3
    subst h1 h2
    refine .inr ⟨g, 1, rfl, fun j u hu => ?_⟩
    have := hc (j + 1) u (by simpa using hu)
    rw [show 1 + j = 0 + (j + 1) by omega]
    exact this
theorem RdI.len0 {k : IntKind} {w : World} {A : Option Addr} {l : List Int} (h : l.length = 0) : RdI k w A l := by
  rw [List.length_eq_zero_iff] at h
  subst h
  exact .inl rfl

end Go.Proofs.YtoibebmhfcjpfaaGreatDoor.Ring

namespace Go.Proofs.YtoibebmhfcjpfaaGreatDoor.Ring
open Go.RowKit Go.Proofs.YtoibebmhfcjpfaaGreatDoor.Big

set_option maxRecDepth 100000 in
set_option maxHeartbeats 2000000 in
theorem step_range (A : Option Addr) (n c : Nat) (zs : List Int) (most mb drops v : Int) (w : World) (hr : RdI .i64 w A zs) (hn : zs.length = n) (h : right zs most mb drops = true) (hv : v < 1 ∨ 1 ≤ v ∧ 1500 < v) :
    Calls Tryz.prog 41 #[.agg #[.slice A n c, (.int .i64 most), (.int .i64 mb), (.int .i64 drops)], .agg #[(.int .i64 1), (.int .i64 v)]] w fun e w' => e = .returned (.tuple #[.agg #[.slice none 0 0, (.int .i64 0), (.int .i64 0), (.int .i64 0)], (.int .i64 0), (.int .i64 2)]) ∧ Below w.heap.size w w' := by
  obtain ⟨⟨⟨m0, m1⟩, ⟨m2, m3⟩, ⟨m4, m5⟩, m6⟩, hall, t0, t1⟩ := right_parts h
  rw [hn] at m6
  have HR : Hid (∀ W, Below w.heap.size w W → Calls Tryz.prog 59 #[.agg #[.slice A n c, (.int .i64 most), (.int .i64 mb), (.int .i64 drops)]] W fun e w' => e = .returned (.bool true) ∧ Below W.heap.size W w') := Lib.hid fun W hW => h ▸ right_any A n c zs most mb drops W (hr.below hW) hn (by omega)
  have HC : Hid (∀ W, Below w.heap.size w W → Calls Tryz.prog 31 #[.slice A n c] W fun e w' => ∃ v, e = .returned v ∧ OwnI w' W.heap.size 3 .i64 v zs ∧ Below W.heap.size W w') := Lib.hid fun W hW => clone_own A n c zs W (hr.below hW) hn (by omega)
  have HN : Hid (∀ er W, Calls Tryz.prog 58 #[(.int .i64 er)] W fun e w' => e = .returned (.tuple #[.agg #[.slice none 0 0, (.int .i64 0), (.int .i64 0), (.int .i64 0)], (.int .i64 0), (.int .i64 er)]) ∧ Below W.heap.size W w') := Lib.hid fun er W => no_any er W
  have Hn := Lib.hid hn
  have Hall := Lib.hid hall
  clear hr hn h hall
  go_enter Tryz.func41, Tryz.ntmps41
  go_wp2_with fail
  refine (HR.out _ (by repeat (first | (with_reducible exact Below.refl _ _) | (with_reducible assumption) | (with_reducible refine Below.drew ?_) | (with_reducible refine below_drewN ?_ _) | ((with_reducible refine Below.setCell ?_ ?_ _); rotate_left; (next => first | omega | exact Nat.le_refl _ | (refine Below.size (B := ?_) ?_; rotate_left; assumption) | (simp; done) | (simp; omega))) | ((with_reducible refine Below.alloc ?_ ?_ _); rotate_left; (next => first | omega | exact Nat.le_refl _ | (refine Below.size (B := ?_) ?_; rotate_left; assumption) | (simp; done) | (simp; omega))) | ((with_reducible refine Below.trans (b := ?_) ?_ (Below.mono (B := ?_) ?_ ?_)); rotate_left 3; (next => (with_reducible assumption)); (next => first | omega | exact Nat.le_refl _ | (refine Below.size (B := ?_) ?_; rotate_left; assumption) | (simp; done) | (simp; omega))) | exact Below.refl _ _ | assumption | refine Below.drew ?_ | refine below_drewN ?_ _ | refine Below.alloc ?_ (by first | omega | exact Below.size (by assumption) | (simp; done) | (simp; omega)) _ | refine Below.setCell ?_ (by first | omega | exact Below.size (by assumption) | (simp; done) | (simp; omega)) _ | refine Below.trans ?_ (Below.mono (by assumption) (by first | omega | exact Below.size (by assumption) | (simp; done) | (simp; omega)))))).mono ?_
  rintro e w1 ⟨rfl, hb1⟩
  have hB1 : Below w.heap.size w w1 := (by repeat (first | (with_reducible exact Below.refl _ _) | (with_reducible assumption) | (with_reducible refine Below.drew ?_) | (with_reducible refine below_drewN ?_ _) | ((with_reducible refine Below.setCell ?_ ?_ _); rotate_left; (next => first | omega | exact Nat.le_refl _ | (refine Below.size (B := ?_) ?_; rotate_left; assumption) | (simp; done) | (simp; omega))) | ((with_reducible refine Below.alloc ?_ ?_ _); rotate_left; (next => first | omega | exact Nat.le_refl _ | (refine Below.size (B := ?_) ?_; rotate_left; assumption) | (simp; done) | (simp; omega))) | ((with_reducible refine Below.trans (b := ?_) ?_ (Below.mono (B := ?_) ?_ ?_)); rotate_left 3; (next => (with_reducible assumption)); (next => first | omega | exact Nat.le_refl _ | (refine Below.size (B := ?_) ?_; rotate_left; assumption) | (simp; done) | (simp; omega))) | exact Below.refl _ _ | assumption | refine Below.drew ?_ | refine below_drewN ?_ _ | refine Below.alloc ?_ (by first | omega | exact Below.size (by assumption) | (simp; done) | (simp; omega)) _ | refine Below.setCell ?_ (by first | omega | exact Below.size (by assumption) | (simp; done) | (simp; omega)) _ | refine Below.trans ?_ (Below.mono (by assumption) (by first | omega | exact Below.size (by assumption) | (simp; done) | (simp; omega)))))
  have hs1 := hB1.size
  have c1_0 := fun o => Below.cell hb1 (p := ⟨w.heap.size, o, none⟩) (by first | omega | exact Below.size (by assumption) | (simp; done) | (simp; omega))
  have f1_0 := fun o => Below.frozen hb1 (p := ⟨w.heap.size, o, none⟩) (by first | omega | exact Below.size (by assumption) | (simp; done) | (simp; omega))
  have l1_0 : w.heap.size < w1.heap.size := Nat.lt_of_lt_of_le (by first | omega | exact Below.size (by assumption) | (simp; done) | (simp; omega)) (Below.size hb1)
  have c1_1 := fun o => Below.cell hb1 (p := ⟨w.heap.size + 1, o, none⟩) (by first | omega | exact Below.size (by assumption) | (simp; done) | (simp; omega))
  have l1_1 : w.heap.size + 1 < w1.heap.size := Nat.lt_of_lt_of_le (by first | omega | exact Below.size (by assumption) | (simp; done) | (simp; omega)) (Below.size hb1)
  have c1_2 := fun o => Below.cell hb1 (p := ⟨w.heap.size + 1 + 1, o, none⟩) (by first | omega | exact Below.size (by assumption) | (simp; done) | (simp; omega))
  have f1_2 := fun o => Below.frozen hb1 (p := ⟨w.heap.size + 1 + 1, o, none⟩) (by first | omega | exact Below.size (by assumption) | (simp; done) | (simp; omega))
  have l1_2 : w.heap.size + 1 + 1 < w1.heap.size := Nat.lt_of_lt_of_le (by first | omega | exact Below.size (by assumption) | (simp; done) | (simp; omega)) (Below.size hb1)
  have k1 : w.heap.size + 1 + 1 < w1.heap.size := l1_2
  go_wp2_with fail
  refine (HC.out _ hB1).mono ?_
  rintro e w2 ⟨v0, rfl, ho, hb2⟩
  have c2_0 := fun o => Below.cell hb2 (p := ⟨w.heap.size, o, none⟩) (by first | omega | exact Below.size (by assumption) | (simp; done) | (simp; omega))
  have f2_0 := fun o => Below.frozen hb2 (p := ⟨w.heap.size, o, none⟩) (by first | omega | exact Below.size (by assumption) | (simp; done) | (simp; omega))
  have l2_0 : w.heap.size < w2.heap.size := Nat.lt_of_lt_of_le (by first | omega | exact Below.size (by assumption) | (simp; done) | (simp; omega)) (Below.size hb2)
  have c2_1 := fun o => Below.cell hb2 (p := ⟨w.heap.size + 1, o, none⟩) (by first | omega | exact Below.size (by assumption) | (simp; done) | (simp; omega))
  have l2_1 : w.heap.size + 1 < w2.heap.size := Nat.lt_of_lt_of_le (by first | omega | exact Below.size (by assumption) | (simp; done) | (simp; omega)) (Below.size hb2)
  have c2_2 := fun o => Below.cell hb2 (p := ⟨w.heap.size + 1 + 1, o, none⟩) (by first | omega | exact Below.size (by assumption) | (simp; done) | (simp; omega))
  have f2_2 := fun o => Below.frozen hb2 (p := ⟨w.heap.size + 1 + 1, o, none⟩) (by first | omega | exact Below.size (by assumption) | (simp; done) | (simp; omega))
  have l2_2 : w.heap.size + 1 + 1 < w2.heap.size := Nat.lt_of_lt_of_le (by first | omega | exact Below.size (by assumption) | (simp; done) | (simp; omega)) (Below.size hb2)
  have hB2 : Below w.heap.size w w2 := hB1.trans (hb2.mono hB1.size)
  have k2 : w.heap.size + 1 + 1 < w2.heap.size := l2_2
  have K12 : w1.heap.size ≤ w2.heap.size := hb2.size
  obtain ⟨A', c', rfl, hlc, _, _⟩ := ho.form
  rw [Hn.out] at ho hlc ⊢
  have Ho := Lib.hid ho
  clear ho hb1 hb2
  go_upto_region 5 with (fail)
  generalize hW : w2.setCell _ _ = W3
  have HW := Lib.hid hW
  clear hW
  have q0 : W3.cell? ⟨w.heap.size, 0, none⟩ = some (.slice A' n c') := by
    rw [← HW.out]
    exact World.cell?_setCell_same _ _ _ (show w2.cell? ⟨w.heap.size, 0, none⟩ = some (.slice A n c) from by rw [c2_0, c1_0]; simp [go_sem])
  have q1 : W3.cell? ⟨w.heap.size, 1, none⟩ = some (.int .i64 most) := by rw [← HW.out, World.cell?_setCell_other _ _ _ _ (by simp), c2_0, c1_0]; simp [go_sem]
  have q2 : W3.cell? ⟨w.heap.size, 2, none⟩ = some (.int .i64 mb) := by rw [← HW.out, World.cell?_setCell_other _ _ _ _ (by simp), c2_0, c1_0]; simp [go_sem]
  have q3 : W3.cell? ⟨w.heap.size, 3, none⟩ = some (.int .i64 drops) := by rw [← HW.out, World.cell?_setCell_other _ _ _ _ (by simp), c2_0, c1_0]; simp [go_sem]
  have q4 : ∀ o, W3.frozen? ⟨w.heap.size, o, none⟩ = false := fun o => by rw [← HW.out, World.frozen?_setCell, f2_0, f1_0]; simp [go_sem]
  have e0 : ∀ o, W3.cell? ⟨w.heap.size + 1, o, none⟩ = (#[(.int .i64 1), (.int .i64 v)] : Array Value)[o]? := fun o => by
    rw [← HW.out, World.cell?_setCell_other _ _ _ _ (by simp), c2_1, c1_1]; simp [go_sem]
  have r0 : ∀ o, W3.cell? ⟨w.heap.size + 1 + 1, o, none⟩ = (#[.slice none 0 0, (.int .i64 0), (.int .i64 0), (.int .i64 0)] : Array Value)[o]? := fun o => by
    rw [← HW.out, World.cell?_setCell_other _ _ _ _ (by simp only [ne_eq, Addr.mk.injEq, not_and]; omega), c2_2, c1_2]; simp [go_sem]
  have r1 : ∀ o, W3.frozen? ⟨w.heap.size + 1 + 1, o, none⟩ = false := fun o => by rw [← HW.out, World.frozen?_setCell, f2_2, f1_2]; simp [go_sem]
  have hB3 : Below w.heap.size w W3 := by rw [← HW.out]; exact hB2.setCell (Nat.le_refl _) _
  have k3 : W3.heap.size = w2.heap.size := by rw [← HW.out]; simp [World.setCell]
  have Ho3 : Hid (OwnI W3 w1.heap.size 3 .i64 (.slice A' n c') zs) := Lib.hid (by
    rw [← HW.out]
    exact OwnI.upd (b := w.heap.size) (o := 0) (n := 4) Ho.out ((Upd.refl _ _ _ _).setCell (by omega) (by omega) _) (fun g hg => by have := (World.ownsRow.lt Ho.out g hg).1; omega))
  have k4 : w1.heap.size ≤ W3.heap.size := by
    have := hB2.size
    rw [k3]
    exact K12
  clear HW Ho HR HC c1_0 c1_1 c1_2 c2_0 c2_1 c2_2 f1_0 f1_2 f2_0 f2_2 l1_0 l1_1 l1_2 l2_0 l2_1 l2_2 hB1 hB2 hs1
  rcases hv with v1 | ⟨v1, v2⟩
  all_goals
    go_wp2_with fail
    refine (HN.out _ _).mono ?_
    rintro e w4 ⟨rfl, hb4⟩
    have k5 : w.heap.size + 1 + 1 < W3.heap.size := by omega
    have c4_0 := fun o => Below.cell hb4 (p := ⟨w.heap.size + 1 + 1, o, none⟩) (by first | omega | exact Below.size (by assumption) | (simp; done) | (simp; omega))
    have f4_0 := fun o => Below.frozen hb4 (p := ⟨w.heap.size + 1 + 1, o, none⟩) (by first | omega | exact Below.size (by assumption) | (simp; done) | (simp; omega))
    have l4_0 : w.heap.size + 1 + 1 < w4.heap.size := Nat.lt_of_lt_of_le (by first | omega | exact Below.size (by assumption) | (simp; done) | (simp; omega)) (Below.size hb4)
    have hB4 : Below w.heap.size w w4 := hB3.trans (hb4.mono hB3.size)
    go_wp2_with fail
    refine bodyPost_ret (v := .tuple #[.agg #[.slice none 0 0, (.int .i64 0), (.int .i64 0), (.int .i64 0)], (.int .i64 0), (.int .i64 2)]) (by simp [results, Tryz.results41, go_sem, *]) rfl ?_
    exact ⟨rfl, (by repeat (first | (with_reducible exact Below.refl _ _) | (with_reducible assumption) | (with_reducible refine Below.drew ?_) | (with_reducible refine below_drewN ?_ _) | ((with_reducible refine Below.setCell ?_ ?_ _); rotate_left; (next => first | omega | exact Nat.le_refl _ | (refine Below.size (B := ?_) ?_; rotate_left; assumption) | (simp; done) | (simp; omega))) | ((with_reducible refine Below.alloc ?_ ?_ _); rotate_left; (next => first | omega | exact Nat.le_refl _ | (refine Below.size (B := ?_) ?_; rotate_left; assumption) | (simp; done) | (simp; omega))) | ((with_reducible refine Below.trans (b := ?_) ?_ (Below.mono (B := ?_) ?_ ?_)); rotate_left 3; (next => (with_reducible assumption)); (next => first | omega | exact Nat.le_refl _ | (refine Below.size (B := ?_) ?_; rotate_left; assumption) | (simp; done) | (simp; omega)))))⟩

set_option maxRecDepth 100000 in
set_option maxHeartbeats 2000000 in
theorem step_in (A : Option Addr) (n c : Nat) (zs : List Int) (most mb drops v : Int) (w : World) (hr : RdI .i64 w A zs) (hn : zs.length = n) (h : right zs most mb drops = true) (v0 : 1 ≤ v) (v1 : v ≤ 1500) (hl : (n : Int) < most) (hb : tot zs + v ≤ mb) :
    Calls Tryz.prog 41 #[.agg #[.slice A n c, (.int .i64 most), (.int .i64 mb), (.int .i64 drops)], .agg #[(.int .i64 1), (.int .i64 v)]] w fun e w' => StepR most mb (drops) (1) (zs ++ [v]) w e w' := by
  obtain ⟨⟨⟨m0, m1⟩, ⟨m2, m3⟩, ⟨m4, m5⟩, m6⟩, hall, t0, t1⟩ := right_parts h
  rw [hn] at m6
  have HR : Hid (∀ W, Below w.heap.size w W → Calls Tryz.prog 59 #[.agg #[.slice A n c, (.int .i64 most), (.int .i64 mb), (.int .i64 drops)]] W fun e w' => e = .returned (.bool true) ∧ Below W.heap.size W w') := Lib.hid fun W hW => h ▸ right_any A n c zs most mb drops W (hr.below hW) hn (by omega)
  have HC : Hid (∀ W, Below w.heap.size w W → Calls Tryz.prog 31 #[.slice A n c] W fun e w' => ∃ v, e = .returned v ∧ OwnI w' W.heap.size 3 .i64 v zs ∧ Below W.heap.size W w') := Lib.hid fun W hW => clone_own A n c zs W (hr.below hW) hn (by omega)
  have HN : Hid (∀ er W, Calls Tryz.prog 58 #[(.int .i64 er)] W fun e w' => e = .returned (.tuple #[.agg #[.slice none 0 0, (.int .i64 0), (.int .i64 0), (.int .i64 0)], (.int .i64 0), (.int .i64 er)]) ∧ Below W.heap.size W w') := Lib.hid fun er W => no_any er W
  have Hn := Lib.hid hn
  have Hall := Lib.hid hall
  clear hr hn h hall
  go_enter Tryz.func41, Tryz.ntmps41
  go_wp2_with fail
  refine (HR.out _ (by repeat (first | (with_reducible exact Below.refl _ _) | (with_reducible assumption) | (with_reducible refine Below.drew ?_) | (with_reducible refine below_drewN ?_ _) | ((with_reducible refine Below.setCell ?_ ?_ _); rotate_left; (next => first | omega | exact Nat.le_refl _ | (refine Below.size (B := ?_) ?_; rotate_left; assumption) | (simp; done) | (simp; omega))) | ((with_reducible refine Below.alloc ?_ ?_ _); rotate_left; (next => first | omega | exact Nat.le_refl _ | (refine Below.size (B := ?_) ?_; rotate_left; assumption) | (simp; done) | (simp; omega))) | ((with_reducible refine Below.trans (b := ?_) ?_ (Below.mono (B := ?_) ?_ ?_)); rotate_left 3; (next => (with_reducible assumption)); (next => first | omega | exact Nat.le_refl _ | (refine Below.size (B := ?_) ?_; rotate_left; assumption) | (simp; done) | (simp; omega))) | exact Below.refl _ _ | assumption | refine Below.drew ?_ | refine below_drewN ?_ _ | refine Below.alloc ?_ (by first | omega | exact Below.size (by assumption) | (simp; done) | (simp; omega)) _ | refine Below.setCell ?_ (by first | omega | exact Below.size (by assumption) | (simp; done) | (simp; omega)) _ | refine Below.trans ?_ (Below.mono (by assumption) (by first | omega | exact Below.size (by assumption) | (simp; done) | (simp; omega)))))).mono ?_
  rintro e w1 ⟨rfl, hb1⟩
  have hB1 : Below w.heap.size w w1 := (by repeat (first | (with_reducible exact Below.refl _ _) | (with_reducible assumption) | (with_reducible refine Below.drew ?_) | (with_reducible refine below_drewN ?_ _) | ((with_reducible refine Below.setCell ?_ ?_ _); rotate_left; (next => first | omega | exact Nat.le_refl _ | (refine Below.size (B := ?_) ?_; rotate_left; assumption) | (simp; done) | (simp; omega))) | ((with_reducible refine Below.alloc ?_ ?_ _); rotate_left; (next => first | omega | exact Nat.le_refl _ | (refine Below.size (B := ?_) ?_; rotate_left; assumption) | (simp; done) | (simp; omega))) | ((with_reducible refine Below.trans (b := ?_) ?_ (Below.mono (B := ?_) ?_ ?_)); rotate_left 3; (next => (with_reducible assumption)); (next => first | omega | exact Nat.le_refl _ | (refine Below.size (B := ?_) ?_; rotate_left; assumption) | (simp; done) | (simp; omega))) | exact Below.refl _ _ | assumption | refine Below.drew ?_ | refine below_drewN ?_ _ | refine Below.alloc ?_ (by first | omega | exact Below.size (by assumption) | (simp; done) | (simp; omega)) _ | refine Below.setCell ?_ (by first | omega | exact Below.size (by assumption) | (simp; done) | (simp; omega)) _ | refine Below.trans ?_ (Below.mono (by assumption) (by first | omega | exact Below.size (by assumption) | (simp; done) | (simp; omega)))))
  have hs1 := hB1.size
  have c1_0 := fun o => Below.cell hb1 (p := ⟨w.heap.size, o, none⟩) (by first | omega | exact Below.size (by assumption) | (simp; done) | (simp; omega))
  have f1_0 := fun o => Below.frozen hb1 (p := ⟨w.heap.size, o, none⟩) (by first | omega | exact Below.size (by assumption) | (simp; done) | (simp; omega))
  have l1_0 : w.heap.size < w1.heap.size := Nat.lt_of_lt_of_le (by first | omega | exact Below.size (by assumption) | (simp; done) | (simp; omega)) (Below.size hb1)
  have c1_1 := fun o => Below.cell hb1 (p := ⟨w.heap.size + 1, o, none⟩) (by first | omega | exact Below.size (by assumption) | (simp; done) | (simp; omega))
  have l1_1 : w.heap.size + 1 < w1.heap.size := Nat.lt_of_lt_of_le (by first | omega | exact Below.size (by assumption) | (simp; done) | (simp; omega)) (Below.size hb1)
  have c1_2 := fun o => Below.cell hb1 (p := ⟨w.heap.size + 1 + 1, o, none⟩) (by first | omega | exact Below.size (by assumption) | (simp; done) | (simp; omega))
  have f1_2 := fun o => Below.frozen hb1 (p := ⟨w.heap.size + 1 + 1, o, none⟩) (by first | omega | exact Below.size (by assumption) | (simp; done) | (simp; omega))
  have l1_2 : w.heap.size + 1 + 1 < w1.heap.size := Nat.lt_of_lt_of_le (by first | omega | exact Below.size (by assumption) | (simp; done) | (simp; omega)) (Below.size hb1)
  have k1 : w.heap.size + 1 + 1 < w1.heap.size := l1_2
  go_wp2_with fail
  refine (HC.out _ hB1).mono ?_
  rintro e w2 ⟨v0, rfl, ho, hb2⟩
  have c2_0 := fun o => Below.cell hb2 (p := ⟨w.heap.size, o, none⟩) (by first | omega | exact Below.size (by assumption) | (simp; done) | (simp; omega))
  have f2_0 := fun o => Below.frozen hb2 (p := ⟨w.heap.size, o, none⟩) (by first | omega | exact Below.size (by assumption) | (simp; done) | (simp; omega))
  have l2_0 : w.heap.size < w2.heap.size := Nat.lt_of_lt_of_le (by first | omega | exact Below.size (by assumption) | (simp; done) | (simp; omega)) (Below.size hb2)
  have c2_1 := fun o => Below.cell hb2 (p := ⟨w.heap.size + 1, o, none⟩) (by first | omega | exact Below.size (by assumption) | (simp; done) | (simp; omega))
  have l2_1 : w.heap.size + 1 < w2.heap.size := Nat.lt_of_lt_of_le (by first | omega | exact Below.size (by assumption) | (simp; done) | (simp; omega)) (Below.size hb2)
  have c2_2 := fun o => Below.cell hb2 (p := ⟨w.heap.size + 1 + 1, o, none⟩) (by first | omega | exact Below.size (by assumption) | (simp; done) | (simp; omega))
  have f2_2 := fun o => Below.frozen hb2 (p := ⟨w.heap.size + 1 + 1, o, none⟩) (by first | omega | exact Below.size (by assumption) | (simp; done) | (simp; omega))
  have l2_2 : w.heap.size + 1 + 1 < w2.heap.size := Nat.lt_of_lt_of_le (by first | omega | exact Below.size (by assumption) | (simp; done) | (simp; omega)) (Below.size hb2)
  have hB2 : Below w.heap.size w w2 := hB1.trans (hb2.mono hB1.size)
  have k2 : w.heap.size + 1 + 1 < w2.heap.size := l2_2
  have K12 : w1.heap.size ≤ w2.heap.size := hb2.size
  obtain ⟨A', c', rfl, hlc, _, _⟩ := ho.form
  rw [Hn.out] at ho hlc ⊢
  have Ho := Lib.hid ho
  clear ho hb1 hb2
  go_upto_region 5 with (fail)
  generalize hW : w2.setCell _ _ = W3
  have HW := Lib.hid hW
  clear hW
  have q0 : W3.cell? ⟨w.heap.size, 0, none⟩ = some (.slice A' n c') := by
    rw [← HW.out]
    exact World.cell?_setCell_same _ _ _ (show w2.cell? ⟨w.heap.size, 0, none⟩ = some (.slice A n c) from by rw [c2_0, c1_0]; simp [go_sem])
  have q1 : W3.cell? ⟨w.heap.size, 1, none⟩ = some (.int .i64 most) := by rw [← HW.out, World.cell?_setCell_other _ _ _ _ (by simp), c2_0, c1_0]; simp [go_sem]
  have q2 : W3.cell? ⟨w.heap.size, 2, none⟩ = some (.int .i64 mb) := by rw [← HW.out, World.cell?_setCell_other _ _ _ _ (by simp), c2_0, c1_0]; simp [go_sem]
  have q3 : W3.cell? ⟨w.heap.size, 3, none⟩ = some (.int .i64 drops) := by rw [← HW.out, World.cell?_setCell_other _ _ _ _ (by simp), c2_0, c1_0]; simp [go_sem]
  have q4 : ∀ o, W3.frozen? ⟨w.heap.size, o, none⟩ = false := fun o => by rw [← HW.out, World.frozen?_setCell, f2_0, f1_0]; simp [go_sem]
  have e0 : ∀ o, W3.cell? ⟨w.heap.size + 1, o, none⟩ = (#[(.int .i64 1), (.int .i64 v)] : Array Value)[o]? := fun o => by
    rw [← HW.out, World.cell?_setCell_other _ _ _ _ (by simp), c2_1, c1_1]; simp [go_sem]
  have r0 : ∀ o, W3.cell? ⟨w.heap.size + 1 + 1, o, none⟩ = (#[.slice none 0 0, (.int .i64 0), (.int .i64 0), (.int .i64 0)] : Array Value)[o]? := fun o => by
    rw [← HW.out, World.cell?_setCell_other _ _ _ _ (by simp only [ne_eq, Addr.mk.injEq, not_and]; omega), c2_2, c1_2]; simp [go_sem]
  have r1 : ∀ o, W3.frozen? ⟨w.heap.size + 1 + 1, o, none⟩ = false := fun o => by rw [← HW.out, World.frozen?_setCell, f2_2, f1_2]; simp [go_sem]
  have hB3 : Below w.heap.size w W3 := by rw [← HW.out]; exact hB2.setCell (Nat.le_refl _) _
  have k3 : W3.heap.size = w2.heap.size := by rw [← HW.out]; simp [World.setCell]
  have Ho3 : Hid (OwnI W3 w1.heap.size 3 .i64 (.slice A' n c') zs) := Lib.hid (by
    rw [← HW.out]
    exact OwnI.upd (b := w.heap.size) (o := 0) (n := 4) Ho.out ((Upd.refl _ _ _ _).setCell (by omega) (by omega) _) (fun g hg => by have := (World.ownsRow.lt Ho.out g hg).1; omega))
  have k4 : w1.heap.size ≤ W3.heap.size := by
    have := hB2.size
    rw [k3]
    exact K12
  clear HW Ho HR HC c1_0 c1_1 c1_2 c2_0 c2_1 c2_2 f1_0 f1_2 f2_0 f2_2 l1_0 l1_1 l1_2 l2_0 l2_1 l2_2 hB1 hB2 hs1
  have s0 : ∀ (i : Since W3) o, i.val.cell? ⟨w.heap.size, o, none⟩ = W3.cell? ⟨w.heap.size, o, none⟩ := fun i o => since_cell i (by omega) o
  have s1 : ∀ (i : Since W3) o, i.val.cell? ⟨w.heap.size + 1, o, none⟩ = W3.cell? ⟨w.heap.size + 1, o, none⟩ := fun i o => since_cell i (by omega) o
  have HSs : Hid (∀ i : Since W3, Calls Tryz.prog 60 #[.slice A' n c'] i.val fun e w' => e = .returned (.int .i64 (tot zs)) ∧ Below i.val.heap.size i.val w') := Lib.hid fun i => (sum_any A' n c' zs i.val (RdI.below (OwnI.rd Ho3.out) i.property) Hn.out (by omega) Hall.out).mono fun e w' ⟨h1, h2⟩ => ⟨h1, h2 ▸ Below.refl _ _⟩
  have hws : IntKind.i64.wrap (tot zs + v) = tot zs + v := IntWalk.i64_in _ (by omega)
  go_wp2_with fail
  try dsimp only [List.append]
  refine wp_region_since W3 (Below.refl _ _) (by kernel_rfl) (by kernel_rfl) ?_
  repeat (go_big_quiet_step ((go_at_call 60; exact Calls.since (HSs.out _))))
  refine wpQuiet_nil ?_
  rintro w5 ⟨i5, hi5⟩
  have hb5 : Below W3.heap.size W3 w5 := hi5 ▸ i5.property
  clear hi5 i5 s0 s1 hws HSs
  have k5 : w.heap.size + 1 + 1 < W3.heap.size := by omega
  have c5_0 := fun o => Below.cell hb5 (p := ⟨w.heap.size, o, none⟩) (by first | omega | exact Below.size (by assumption) | (simp; done) | (simp; omega))
  have f5_0 := fun o => Below.frozen hb5 (p := ⟨w.heap.size, o, none⟩) (by first | omega | exact Below.size (by assumption) | (simp; done) | (simp; omega))
  have l5_0 : w.heap.size < w5.heap.size := Nat.lt_of_lt_of_le (by first | omega | exact Below.size (by assumption) | (simp; done) | (simp; omega)) (Below.size hb5)
  have c5_1 := fun o => Below.cell hb5 (p := ⟨w.heap.size + 1, o, none⟩) (by first | omega | exact Below.size (by assumption) | (simp; done) | (simp; omega))
  have l5_1 : w.heap.size + 1 < w5.heap.size := Nat.lt_of_lt_of_le (by first | omega | exact Below.size (by assumption) | (simp; done) | (simp; omega)) (Below.size hb5)
  have c5_2 := fun o => Below.cell hb5 (p := ⟨w.heap.size + 1 + 1, o, none⟩) (by first | omega | exact Below.size (by assumption) | (simp; done) | (simp; omega))
  have f5_2 := fun o => Below.frozen hb5 (p := ⟨w.heap.size + 1 + 1, o, none⟩) (by first | omega | exact Below.size (by assumption) | (simp; done) | (simp; omega))
  have l5_2 : w.heap.size + 1 + 1 < w5.heap.size := Nat.lt_of_lt_of_le (by first | omega | exact Below.size (by assumption) | (simp; done) | (simp; omega)) (Below.size hb5)
  have hB5 : Below w.heap.size w w5 := hB3.trans (hb5.mono hB3.size)
  have Ho5 : Hid (OwnI w5 w1.heap.size 3 .i64 (.slice A' n c') zs) := Lib.hid (Ho3.out.below hb5)
  have k6 : w.heap.size + 1 + 1 < w5.heap.size := l5_2
  have k7 : w1.heap.size ≤ w5.heap.size := by have := hb5.size; omega
  go_wp2_with (at_builtin; refine wpList_app1 rfl _ _ 22 rfl 3 .i64 8 Tryz.underlying22 infoI8 w1.heap.size zs v _ rfl _ rfl (by decide) ?own ?cell ?len ?base ?_)
  case own => exact Ho5.out.alloc _
  try (case cell => simp [go_sem])
  case len => (have := Hn.out; omega)
  case base => (simp; omega)
  intro v' w6 hown hgr
  have hB6 : Below w.heap.size w w6 := Below.grown (hB5.alloc hB5.size _) hgr (by have := hB5.size; simp; omega) (fun k hk => by have := (World.ownsRow.lt Ho5.out k hk).1; omega)
  have g0 := fun b (hb : b < w5.heap.size) (hne : b < w1.heap.size) => hgr.block b (by simp; omega) (fun e => by have := (World.ownsRow.lt Ho5.out _ e.symm).1; omega)
  have c6_0 := fun o => World.cell?_of_block (a := ⟨w.heap.size, o, none⟩) (g0 w.heap.size (by omega) (by omega))
  have f6_0 := fun o => World.frozen?_of_block (a := ⟨w.heap.size, o, none⟩) (g0 w.heap.size (by omega) (by omega))
  have c6_2 := fun o => World.cell?_of_block (a := ⟨w.heap.size + 1 + 1, o, none⟩) (g0 (w.heap.size + 1 + 1) (by omega) (by omega))
  have f6_2 := fun o => World.frozen?_of_block (a := ⟨w.heap.size + 1 + 1, o, none⟩) (g0 (w.heap.size + 1 + 1) (by omega) (by omega))
  obtain ⟨A7, c7, rfl, hlc7, hrd7, hblk7⟩ := hown.form
  have Hrd7 := Lib.hid hrd7
  have Hblk := Lib.hid hblk7
  have Hown := Lib.hid hown
  have Hl7 : Hid ((zs ++ [v]).length = n + 1) := Lib.hid (by simp [Hn.out])
  rw [Hl7.out] at hlc7 ⊢
  clear hgr g0 hrd7 hblk7 hown
  go_wp2_with fail
  refine bodyPost_ret (v := .tuple #[.agg #[.slice A7 (n + 1) c7, (.int .i64 most), (.int .i64 mb), (.int .i64 drops)], (.int .i64 1), (.int .i64 0)]) (by simp [results, Tryz.results41, go_sem, *]) rfl ?_
  refine ⟨A7, c7, by rw [Hl7.out], by rw [Hl7.out]; exact hlc7, OwnI.rdf (by omega) (OwnI.upd (b := w.heap.size + 1 + 1) (o := 0) (n := 4) (OwnI.upd (b := w.heap.size) (o := 0) (n := 4) Hown.out ((Upd.refl _ _ _ _).setCell (by omega) (by omega) _) (fun g hg => by have := (World.ownsRow.lt Hown.out g hg).1; omega)) (((((Upd.refl _ _ _ _).setCell (by omega) (by omega) _).setCell (by omega) (by omega) _).setCell (by omega) (by omega) _).setCell (by omega) (by omega) _) (fun g hg => by have := (World.ownsRow.lt Hown.out g hg).1; omega)), (by repeat (first | (with_reducible exact Below.refl _ _) | (with_reducible assumption) | (with_reducible refine Below.drew ?_) | (with_reducible refine below_drewN ?_ _) | ((with_reducible refine Below.setCell ?_ ?_ _); rotate_left; (next => first | omega | exact Nat.le_refl _ | (refine Below.size (B := ?_) ?_; rotate_left; assumption) | (simp; done) | (simp; omega))) | ((with_reducible refine Below.alloc ?_ ?_ _); rotate_left; (next => first | omega | exact Nat.le_refl _ | (refine Below.size (B := ?_) ?_; rotate_left; assumption) | (simp; done) | (simp; omega))) | ((with_reducible refine Below.trans (b := ?_) ?_ (Below.mono (B := ?_) ?_ ?_)); rotate_left 3; (next => (with_reducible assumption)); (next => first | omega | exact Nat.le_refl _ | (refine Below.size (B := ?_) ?_; rotate_left; assumption) | (simp; done) | (simp; omega)))))⟩

set_option maxRecDepth 100000 in
set_option maxHeartbeats 2000000 in
theorem step_drop (A : Option Addr) (n c : Nat) (zs : List Int) (most mb drops v : Int) (w : World) (hr : RdI .i64 w A zs) (hn : zs.length = n) (h : right zs most mb drops = true) (v0 : 1 ≤ v) (v1 : v ≤ 1500) (hnf : (n : Int) < most ∧ mb < tot zs + v ∨ most ≤ (n : Int)) (hdr : drops < 1099511627776) :
    Calls Tryz.prog 41 #[.agg #[.slice A n c, (.int .i64 most), (.int .i64 mb), (.int .i64 drops)], .agg #[(.int .i64 1), (.int .i64 v)]] w fun e w' => StepR most mb (drops + 1) (0) (zs) w e w' := by
  obtain ⟨⟨⟨m0, m1⟩, ⟨m2, m3⟩, ⟨m4, m5⟩, m6⟩, hall, t0, t1⟩ := right_parts h
  rw [hn] at m6
  have HR : Hid (∀ W, Below w.heap.size w W → Calls Tryz.prog 59 #[.agg #[.slice A n c, (.int .i64 most), (.int .i64 mb), (.int .i64 drops)]] W fun e w' => e = .returned (.bool true) ∧ Below W.heap.size W w') := Lib.hid fun W hW => h ▸ right_any A n c zs most mb drops W (hr.below hW) hn (by omega)
  have HC : Hid (∀ W, Below w.heap.size w W → Calls Tryz.prog 31 #[.slice A n c] W fun e w' => ∃ v, e = .returned v ∧ OwnI w' W.heap.size 3 .i64 v zs ∧ Below W.heap.size W w') := Lib.hid fun W hW => clone_own A n c zs W (hr.below hW) hn (by omega)
  have HN : Hid (∀ er W, Calls Tryz.prog 58 #[(.int .i64 er)] W fun e w' => e = .returned (.tuple #[.agg #[.slice none 0 0, (.int .i64 0), (.int .i64 0), (.int .i64 0)], (.int .i64 0), (.int .i64 er)]) ∧ Below W.heap.size W w') := Lib.hid fun er W => no_any er W
  have Hn := Lib.hid hn
  have Hall := Lib.hid hall
  clear hr hn h hall
  go_enter Tryz.func41, Tryz.ntmps41
  go_wp2_with fail
  refine (HR.out _ (by repeat (first | (with_reducible exact Below.refl _ _) | (with_reducible assumption) | (with_reducible refine Below.drew ?_) | (with_reducible refine below_drewN ?_ _) | ((with_reducible refine Below.setCell ?_ ?_ _); rotate_left; (next => first | omega | exact Nat.le_refl _ | (refine Below.size (B := ?_) ?_; rotate_left; assumption) | (simp; done) | (simp; omega))) | ((with_reducible refine Below.alloc ?_ ?_ _); rotate_left; (next => first | omega | exact Nat.le_refl _ | (refine Below.size (B := ?_) ?_; rotate_left; assumption) | (simp; done) | (simp; omega))) | ((with_reducible refine Below.trans (b := ?_) ?_ (Below.mono (B := ?_) ?_ ?_)); rotate_left 3; (next => (with_reducible assumption)); (next => first | omega | exact Nat.le_refl _ | (refine Below.size (B := ?_) ?_; rotate_left; assumption) | (simp; done) | (simp; omega))) | exact Below.refl _ _ | assumption | refine Below.drew ?_ | refine below_drewN ?_ _ | refine Below.alloc ?_ (by first | omega | exact Below.size (by assumption) | (simp; done) | (simp; omega)) _ | refine Below.setCell ?_ (by first | omega | exact Below.size (by assumption) | (simp; done) | (simp; omega)) _ | refine Below.trans ?_ (Below.mono (by assumption) (by first | omega | exact Below.size (by assumption) | (simp; done) | (simp; omega)))))).mono ?_
  rintro e w1 ⟨rfl, hb1⟩
  have hB1 : Below w.heap.size w w1 := (by repeat (first | (with_reducible exact Below.refl _ _) | (with_reducible assumption) | (with_reducible refine Below.drew ?_) | (with_reducible refine below_drewN ?_ _) | ((with_reducible refine Below.setCell ?_ ?_ _); rotate_left; (next => first | omega | exact Nat.le_refl _ | (refine Below.size (B := ?_) ?_; rotate_left; assumption) | (simp; done) | (simp; omega))) | ((with_reducible refine Below.alloc ?_ ?_ _); rotate_left; (next => first | omega | exact Nat.le_refl _ | (refine Below.size (B := ?_) ?_; rotate_left; assumption) | (simp; done) | (simp; omega))) | ((with_reducible refine Below.trans (b := ?_) ?_ (Below.mono (B := ?_) ?_ ?_)); rotate_left 3; (next => (with_reducible assumption)); (next => first | omega | exact Nat.le_refl _ | (refine Below.size (B := ?_) ?_; rotate_left; assumption) | (simp; done) | (simp; omega))) | exact Below.refl _ _ | assumption | refine Below.drew ?_ | refine below_drewN ?_ _ | refine Below.alloc ?_ (by first | omega | exact Below.size (by assumption) | (simp; done) | (simp; omega)) _ | refine Below.setCell ?_ (by first | omega | exact Below.size (by assumption) | (simp; done) | (simp; omega)) _ | refine Below.trans ?_ (Below.mono (by assumption) (by first | omega | exact Below.size (by assumption) | (simp; done) | (simp; omega)))))
  have hs1 := hB1.size
  have c1_0 := fun o => Below.cell hb1 (p := ⟨w.heap.size, o, none⟩) (by first | omega | exact Below.size (by assumption) | (simp; done) | (simp; omega))
  have f1_0 := fun o => Below.frozen hb1 (p := ⟨w.heap.size, o, none⟩) (by first | omega | exact Below.size (by assumption) | (simp; done) | (simp; omega))
  have l1_0 : w.heap.size < w1.heap.size := Nat.lt_of_lt_of_le (by first | omega | exact Below.size (by assumption) | (simp; done) | (simp; omega)) (Below.size hb1)
  have c1_1 := fun o => Below.cell hb1 (p := ⟨w.heap.size + 1, o, none⟩) (by first | omega | exact Below.size (by assumption) | (simp; done) | (simp; omega))
  have l1_1 : w.heap.size + 1 < w1.heap.size := Nat.lt_of_lt_of_le (by first | omega | exact Below.size (by assumption) | (simp; done) | (simp; omega)) (Below.size hb1)
  have c1_2 := fun o => Below.cell hb1 (p := ⟨w.heap.size + 1 + 1, o, none⟩) (by first | omega | exact Below.size (by assumption) | (simp; done) | (simp; omega))
  have f1_2 := fun o => Below.frozen hb1 (p := ⟨w.heap.size + 1 + 1, o, none⟩) (by first | omega | exact Below.size (by assumption) | (simp; done) | (simp; omega))
  have l1_2 : w.heap.size + 1 + 1 < w1.heap.size := Nat.lt_of_lt_of_le (by first | omega | exact Below.size (by assumption) | (simp; done) | (simp; omega)) (Below.size hb1)
  have k1 : w.heap.size + 1 + 1 < w1.heap.size := l1_2
  go_wp2_with fail
  refine (HC.out _ hB1).mono ?_
  rintro e w2 ⟨v0, rfl, ho, hb2⟩
  have c2_0 := fun o => Below.cell hb2 (p := ⟨w.heap.size, o, none⟩) (by first | omega | exact Below.size (by assumption) | (simp; done) | (simp; omega))
  have f2_0 := fun o => Below.frozen hb2 (p := ⟨w.heap.size, o, none⟩) (by first | omega | exact Below.size (by assumption) | (simp; done) | (simp; omega))
  have l2_0 : w.heap.size < w2.heap.size := Nat.lt_of_lt_of_le (by first | omega | exact Below.size (by assumption) | (simp; done) | (simp; omega)) (Below.size hb2)
  have c2_1 := fun o => Below.cell hb2 (p := ⟨w.heap.size + 1, o, none⟩) (by first | omega | exact Below.size (by assumption) | (simp; done) | (simp; omega))
  have l2_1 : w.heap.size + 1 < w2.heap.size := Nat.lt_of_lt_of_le (by first | omega | exact Below.size (by assumption) | (simp; done) | (simp; omega)) (Below.size hb2)
  have c2_2 := fun o => Below.cell hb2 (p := ⟨w.heap.size + 1 + 1, o, none⟩) (by first | omega | exact Below.size (by assumption) | (simp; done) | (simp; omega))
  have f2_2 := fun o => Below.frozen hb2 (p := ⟨w.heap.size + 1 + 1, o, none⟩) (by first | omega | exact Below.size (by assumption) | (simp; done) | (simp; omega))
  have l2_2 : w.heap.size + 1 + 1 < w2.heap.size := Nat.lt_of_lt_of_le (by first | omega | exact Below.size (by assumption) | (simp; done) | (simp; omega)) (Below.size hb2)
  have hB2 : Below w.heap.size w w2 := hB1.trans (hb2.mono hB1.size)
  have k2 : w.heap.size + 1 + 1 < w2.heap.size := l2_2
  have K12 : w1.heap.size ≤ w2.heap.size := hb2.size
  obtain ⟨A', c', rfl, hlc, _, _⟩ := ho.form
  rw [Hn.out] at ho hlc ⊢
  have Ho := Lib.hid ho
  clear ho hb1 hb2
  go_upto_region 5 with (fail)
  generalize hW : w2.setCell _ _ = W3
  have HW := Lib.hid hW
  clear hW
  have q0 : W3.cell? ⟨w.heap.size, 0, none⟩ = some (.slice A' n c') := by
    rw [← HW.out]
    exact World.cell?_setCell_same _ _ _ (show w2.cell? ⟨w.heap.size, 0, none⟩ = some (.slice A n c) from by rw [c2_0, c1_0]; simp [go_sem])
  have q1 : W3.cell? ⟨w.heap.size, 1, none⟩ = some (.int .i64 most) := by rw [← HW.out, World.cell?_setCell_other _ _ _ _ (by simp), c2_0, c1_0]; simp [go_sem]
  have q2 : W3.cell? ⟨w.heap.size, 2, none⟩ = some (.int .i64 mb) := by rw [← HW.out, World.cell?_setCell_other _ _ _ _ (by simp), c2_0, c1_0]; simp [go_sem]
  have q3 : W3.cell? ⟨w.heap.size, 3, none⟩ = some (.int .i64 drops) := by rw [← HW.out, World.cell?_setCell_other _ _ _ _ (by simp), c2_0, c1_0]; simp [go_sem]
  have q4 : ∀ o, W3.frozen? ⟨w.heap.size, o, none⟩ = false := fun o => by rw [← HW.out, World.frozen?_setCell, f2_0, f1_0]; simp [go_sem]
  have e0 : ∀ o, W3.cell? ⟨w.heap.size + 1, o, none⟩ = (#[(.int .i64 1), (.int .i64 v)] : Array Value)[o]? := fun o => by
    rw [← HW.out, World.cell?_setCell_other _ _ _ _ (by simp), c2_1, c1_1]; simp [go_sem]
  have r0 : ∀ o, W3.cell? ⟨w.heap.size + 1 + 1, o, none⟩ = (#[.slice none 0 0, (.int .i64 0), (.int .i64 0), (.int .i64 0)] : Array Value)[o]? := fun o => by
    rw [← HW.out, World.cell?_setCell_other _ _ _ _ (by simp only [ne_eq, Addr.mk.injEq, not_and]; omega), c2_2, c1_2]; simp [go_sem]
  have r1 : ∀ o, W3.frozen? ⟨w.heap.size + 1 + 1, o, none⟩ = false := fun o => by rw [← HW.out, World.frozen?_setCell, f2_2, f1_2]; simp [go_sem]
  have hB3 : Below w.heap.size w W3 := by rw [← HW.out]; exact hB2.setCell (Nat.le_refl _) _
  have k3 : W3.heap.size = w2.heap.size := by rw [← HW.out]; simp [World.setCell]
  have Ho3 : Hid (OwnI W3 w1.heap.size 3 .i64 (.slice A' n c') zs) := Lib.hid (by
    rw [← HW.out]
    exact OwnI.upd (b := w.heap.size) (o := 0) (n := 4) Ho.out ((Upd.refl _ _ _ _).setCell (by omega) (by omega) _) (fun g hg => by have := (World.ownsRow.lt Ho.out g hg).1; omega))
  have k4 : w1.heap.size ≤ W3.heap.size := by
    have := hB2.size
    rw [k3]
    exact K12
  clear HW Ho HR HC c1_0 c1_1 c1_2 c2_0 c2_1 c2_2 f1_0 f1_2 f2_0 f2_2 l1_0 l1_1 l1_2 l2_0 l2_1 l2_2 hB1 hB2 hs1
  rcases hnf with ⟨hl, hb⟩ | hl
  · have s0 : ∀ (i : Since W3) o, i.val.cell? ⟨w.heap.size, o, none⟩ = W3.cell? ⟨w.heap.size, o, none⟩ := fun i o => since_cell i (by omega) o
    have s1 : ∀ (i : Since W3) o, i.val.cell? ⟨w.heap.size + 1, o, none⟩ = W3.cell? ⟨w.heap.size + 1, o, none⟩ := fun i o => since_cell i (by omega) o
    have HSs : Hid (∀ i : Since W3, Calls Tryz.prog 60 #[.slice A' n c'] i.val fun e w' => e = .returned (.int .i64 (tot zs)) ∧ Below i.val.heap.size i.val w') := Lib.hid fun i => (sum_any A' n c' zs i.val (RdI.below (OwnI.rd Ho3.out) i.property) Hn.out (by omega) Hall.out).mono fun e w' ⟨h1, h2⟩ => ⟨h1, h2 ▸ Below.refl _ _⟩
    have hws : IntKind.i64.wrap (tot zs + v) = tot zs + v := IntWalk.i64_in _ (by omega)
    go_wp2_with fail
    try dsimp only [List.append]
    refine wp_region_since W3 (Below.refl _ _) (by kernel_rfl) (by kernel_rfl) ?_
    repeat (go_big_quiet_step ((go_at_call 60; exact Calls.since (HSs.out _))))
    refine wpQuiet_nil ?_
    rintro w5 ⟨i5, hi5⟩
    have hb5 : Below W3.heap.size W3 w5 := hi5 ▸ i5.property
    clear hi5 i5 s0 s1 hws HSs
    have k5 : w.heap.size + 1 + 1 < W3.heap.size := by omega
    have c5_0 := fun o => Below.cell hb5 (p := ⟨w.heap.size, o, none⟩) (by first | omega | exact Below.size (by assumption) | (simp; done) | (simp; omega))
    have f5_0 := fun o => Below.frozen hb5 (p := ⟨w.heap.size, o, none⟩) (by first | omega | exact Below.size (by assumption) | (simp; done) | (simp; omega))
    have l5_0 : w.heap.size < w5.heap.size := Nat.lt_of_lt_of_le (by first | omega | exact Below.size (by assumption) | (simp; done) | (simp; omega)) (Below.size hb5)
    have c5_1 := fun o => Below.cell hb5 (p := ⟨w.heap.size + 1, o, none⟩) (by first | omega | exact Below.size (by assumption) | (simp; done) | (simp; omega))
    have l5_1 : w.heap.size + 1 < w5.heap.size := Nat.lt_of_lt_of_le (by first | omega | exact Below.size (by assumption) | (simp; done) | (simp; omega)) (Below.size hb5)
    have c5_2 := fun o => Below.cell hb5 (p := ⟨w.heap.size + 1 + 1, o, none⟩) (by first | omega | exact Below.size (by assumption) | (simp; done) | (simp; omega))
    have f5_2 := fun o => Below.frozen hb5 (p := ⟨w.heap.size + 1 + 1, o, none⟩) (by first | omega | exact Below.size (by assumption) | (simp; done) | (simp; omega))
    have l5_2 : w.heap.size + 1 + 1 < w5.heap.size := Nat.lt_of_lt_of_le (by first | omega | exact Below.size (by assumption) | (simp; done) | (simp; omega)) (Below.size hb5)
    have hB5 : Below w.heap.size w w5 := hB3.trans (hb5.mono hB3.size)
    have Ho5 : Hid (OwnI w5 w1.heap.size 3 .i64 (.slice A' n c') zs) := Lib.hid (Ho3.out.below hb5)
    have k6 : w.heap.size + 1 + 1 < w5.heap.size := l5_2
    have k7 : w1.heap.size ≤ w5.heap.size := by have := hb5.size; omega
    have hne : (drops == 1099511627776) = false := by simp; omega
    go_wp2_with fail
    refine bodyPost_ret (v := .tuple #[.agg #[.slice A' n c', (.int .i64 most), (.int .i64 mb), (.int .i64 (drops + 1))], (.int .i64 0), (.int .i64 0)]) (by simp [results, Tryz.results41, go_sem, *]) rfl ?_
    refine ⟨A', c', by rw [Hn.out], by rw [Hn.out]; exact hlc, OwnI.rdf (by omega) (OwnI.upd (b := w.heap.size + 1 + 1) (o := 0) (n := 4) (OwnI.upd (b := w.heap.size) (o := 0) (n := 4) Ho5.out ((Upd.refl _ _ _ _).setCell (by omega) (by omega) _) (fun g hg => by have := (World.ownsRow.lt Ho5.out g hg).1; omega)) (((((Upd.refl _ _ _ _).setCell (by omega) (by omega) _).setCell (by omega) (by omega) _).setCell (by omega) (by omega) _).setCell (by omega) (by omega) _) (fun g hg => by have := (World.ownsRow.lt Ho5.out g hg).1; omega)), (by repeat (first | (with_reducible exact Below.refl _ _) | (with_reducible assumption) | (with_reducible refine Below.drew ?_) | (with_reducible refine below_drewN ?_ _) | ((with_reducible refine Below.setCell ?_ ?_ _); rotate_left; (next => first | omega | exact Nat.le_refl _ | (refine Below.size (B := ?_) ?_; rotate_left; assumption) | (simp; done) | (simp; omega))) | ((with_reducible refine Below.alloc ?_ ?_ _); rotate_left; (next => first | omega | exact Nat.le_refl _ | (refine Below.size (B := ?_) ?_; rotate_left; assumption) | (simp; done) | (simp; omega))) | ((with_reducible refine Below.trans (b := ?_) ?_ (Below.mono (B := ?_) ?_ ?_)); rotate_left 3; (next => (with_reducible assumption)); (next => first | omega | exact Nat.le_refl _ | (refine Below.size (B := ?_) ?_; rotate_left; assumption) | (simp; done) | (simp; omega)))))⟩
  · have s0 : ∀ (i : Since W3) o, i.val.cell? ⟨w.heap.size, o, none⟩ = W3.cell? ⟨w.heap.size, o, none⟩ := fun i o => since_cell i (by omega) o
    have s1 : ∀ (i : Since W3) o, i.val.cell? ⟨w.heap.size + 1, o, none⟩ = W3.cell? ⟨w.heap.size + 1, o, none⟩ := fun i o => since_cell i (by omega) o
    have hd1 : decide ((n : Int) < most) = false := decide_eq_false (by omega)
    have HSs : Hid (∀ i : Since W3, Calls Tryz.prog 60 #[.slice A' n c'] i.val fun e w' => e = .returned (.int .i64 (tot zs)) ∧ Below i.val.heap.size i.val w') := Lib.hid fun i => (sum_any A' n c' zs i.val (RdI.below (OwnI.rd Ho3.out) i.property) Hn.out (by omega) Hall.out).mono fun e w' ⟨h1, h2⟩ => ⟨h1, h2 ▸ Below.refl _ _⟩
    have hws : IntKind.i64.wrap (tot zs + v) = tot zs + v := IntWalk.i64_in _ (by omega)
    go_wp2_with fail
    try dsimp only [List.append]
    refine wp_region_since W3 (Below.refl _ _) (by kernel_rfl) (by kernel_rfl) ?_
    repeat (go_big_quiet_step ((go_at_call 60; exact Calls.since (HSs.out _))))
    refine wpQuiet_nil ?_
    rintro w5 ⟨i5, hi5⟩
    have hb5 : Below W3.heap.size W3 w5 := hi5 ▸ i5.property
    clear hi5 i5 s0 s1 hws HSs
    have k5 : w.heap.size + 1 + 1 < W3.heap.size := by omega
    have c5_0 := fun o => Below.cell hb5 (p := ⟨w.heap.size, o, none⟩) (by first | omega | exact Below.size (by assumption) | (simp; done) | (simp; omega))
    have f5_0 := fun o => Below.frozen hb5 (p := ⟨w.heap.size, o, none⟩) (by first | omega | exact Below.size (by assumption) | (simp; done) | (simp; omega))
    have l5_0 : w.heap.size < w5.heap.size := Nat.lt_of_lt_of_le (by first | omega | exact Below.size (by assumption) | (simp; done) | (simp; omega)) (Below.size hb5)
    have c5_1 := fun o => Below.cell hb5 (p := ⟨w.heap.size + 1, o, none⟩) (by first | omega | exact Below.size (by assumption) | (simp; done) | (simp; omega))
    have l5_1 : w.heap.size + 1 < w5.heap.size := Nat.lt_of_lt_of_le (by first | omega | exact Below.size (by assumption) | (simp; done) | (simp; omega)) (Below.size hb5)
    have c5_2 := fun o => Below.cell hb5 (p := ⟨w.heap.size + 1 + 1, o, none⟩) (by first | omega | exact Below.size (by assumption) | (simp; done) | (simp; omega))
    have f5_2 := fun o => Below.frozen hb5 (p := ⟨w.heap.size + 1 + 1, o, none⟩) (by first | omega | exact Below.size (by assumption) | (simp; done) | (simp; omega))
    have l5_2 : w.heap.size + 1 + 1 < w5.heap.size := Nat.lt_of_lt_of_le (by first | omega | exact Below.size (by assumption) | (simp; done) | (simp; omega)) (Below.size hb5)
    have hB5 : Below w.heap.size w w5 := hB3.trans (hb5.mono hB3.size)
    have Ho5 : Hid (OwnI w5 w1.heap.size 3 .i64 (.slice A' n c') zs) := Lib.hid (Ho3.out.below hb5)
    have k6 : w.heap.size + 1 + 1 < w5.heap.size := l5_2
    have k7 : w1.heap.size ≤ w5.heap.size := by have := hb5.size; omega
    have hne : (drops == 1099511627776) = false := by simp; omega
    go_wp2_with fail
    refine bodyPost_ret (v := .tuple #[.agg #[.slice A' n c', (.int .i64 most), (.int .i64 mb), (.int .i64 (drops + 1))], (.int .i64 0), (.int .i64 0)]) (by simp [results, Tryz.results41, go_sem, *]) rfl ?_
    refine ⟨A', c', by rw [Hn.out], by rw [Hn.out]; exact hlc, OwnI.rdf (by omega) (OwnI.upd (b := w.heap.size + 1 + 1) (o := 0) (n := 4) (OwnI.upd (b := w.heap.size) (o := 0) (n := 4) Ho5.out ((Upd.refl _ _ _ _).setCell (by omega) (by omega) _) (fun g hg => by have := (World.ownsRow.lt Ho5.out g hg).1; omega)) (((((Upd.refl _ _ _ _).setCell (by omega) (by omega) _).setCell (by omega) (by omega) _).setCell (by omega) (by omega) _).setCell (by omega) (by omega) _) (fun g hg => by have := (World.ownsRow.lt Ho5.out g hg).1; omega)), (by repeat (first | (with_reducible exact Below.refl _ _) | (with_reducible assumption) | (with_reducible refine Below.drew ?_) | (with_reducible refine below_drewN ?_ _) | ((with_reducible refine Below.setCell ?_ ?_ _); rotate_left; (next => first | omega | exact Nat.le_refl _ | (refine Below.size (B := ?_) ?_; rotate_left; assumption) | (simp; done) | (simp; omega))) | ((with_reducible refine Below.alloc ?_ ?_ _); rotate_left; (next => first | omega | exact Nat.le_refl _ | (refine Below.size (B := ?_) ?_; rotate_left; assumption) | (simp; done) | (simp; omega))) | ((with_reducible refine Below.trans (b := ?_) ?_ (Below.mono (B := ?_) ?_ ?_)); rotate_left 3; (next => (with_reducible assumption)); (next => first | omega | exact Nat.le_refl _ | (refine Below.size (B := ?_) ?_; rotate_left; assumption) | (simp; done) | (simp; omega)))))⟩

end Go.Proofs.YtoibebmhfcjpfaaGreatDoor.Ring

namespace Go.Proofs.YtoibebmhfcjpfaaGreatDoor.Ring
open Go.RowKit Go.Proofs.YtoibebmhfcjpfaaGreatDoor.Big

set_option maxRecDepth 100000 in
set_option maxHeartbeats 2000000 in
theorem step_out (A : Option Addr) (n c : Nat) (zs : List Int) (most mb drops v : Int) (w : World) (hr : RdI .i64 w A zs) (hn : zs.length = n) (h : right zs most mb drops = true) (h0 : 0 < n) :
    Calls Tryz.prog 41 #[.agg #[.slice A n c, (.int .i64 most), (.int .i64 mb), (.int .i64 drops)], .agg #[(.int .i64 2), (.int .i64 v)]] w fun e w' => StepR most mb (drops) (zs.headD 0) (zs.tail) w e w' := by
  obtain ⟨⟨⟨m0, m1⟩, ⟨m2, m3⟩, ⟨m4, m5⟩, m6⟩, hall, t0, t1⟩ := right_parts h
  rw [hn] at m6
  have HR : Hid (∀ W, Below w.heap.size w W → Calls Tryz.prog 59 #[.agg #[.slice A n c, (.int .i64 most), (.int .i64 mb), (.int .i64 drops)]] W fun e w' => e = .returned (.bool true) ∧ Below W.heap.size W w') := Lib.hid fun W hW => h ▸ right_any A n c zs most mb drops W (hr.below hW) hn (by omega)
  have HC : Hid (∀ W, Below w.heap.size w W → Calls Tryz.prog 31 #[.slice A n c] W fun e w' => ∃ v, e = .returned v ∧ OwnI w' W.heap.size 3 .i64 v zs ∧ Below W.heap.size W w') := Lib.hid fun W hW => clone_own A n c zs W (hr.below hW) hn (by omega)
  have HN : Hid (∀ er W, Calls Tryz.prog 58 #[(.int .i64 er)] W fun e w' => e = .returned (.tuple #[.agg #[.slice none 0 0, (.int .i64 0), (.int .i64 0), (.int .i64 0)], (.int .i64 0), (.int .i64 er)]) ∧ Below W.heap.size W w') := Lib.hid fun er W => no_any er W
  have Hn := Lib.hid hn
  have Hall := Lib.hid hall
  clear hr hn h hall
  go_enter Tryz.func41, Tryz.ntmps41
  go_wp2_with fail
  refine (HR.out _ (by repeat (first | (with_reducible exact Below.refl _ _) | (with_reducible assumption) | (with_reducible refine Below.drew ?_) | (with_reducible refine below_drewN ?_ _) | ((with_reducible refine Below.setCell ?_ ?_ _); rotate_left; (next => first | omega | exact Nat.le_refl _ | (refine Below.size (B := ?_) ?_; rotate_left; assumption) | (simp; done) | (simp; omega))) | ((with_reducible refine Below.alloc ?_ ?_ _); rotate_left; (next => first | omega | exact Nat.le_refl _ | (refine Below.size (B := ?_) ?_; rotate_left; assumption) | (simp; done) | (simp; omega))) | ((with_reducible refine Below.trans (b := ?_) ?_ (Below.mono (B := ?_) ?_ ?_)); rotate_left 3; (next => (with_reducible assumption)); (next => first | omega | exact Nat.le_refl _ | (refine Below.size (B := ?_) ?_; rotate_left; assumption) | (simp; done) | (simp; omega))) | exact Below.refl _ _ | assumption | refine Below.drew ?_ | refine below_drewN ?_ _ | refine Below.alloc ?_ (by first | omega | exact Below.size (by assumption) | (simp; done) | (simp; omega)) _ | refine Below.setCell ?_ (by first | omega | exact Below.size (by assumption) | (simp; done) | (simp; omega)) _ | refine Below.trans ?_ (Below.mono (by assumption) (by first | omega | exact Below.size (by assumption) | (simp; done) | (simp; omega)))))).mono ?_
  rintro e w1 ⟨rfl, hb1⟩
  have hB1 : Below w.heap.size w w1 := (by repeat (first | (with_reducible exact Below.refl _ _) | (with_reducible assumption) | (with_reducible refine Below.drew ?_) | (with_reducible refine below_drewN ?_ _) | ((with_reducible refine Below.setCell ?_ ?_ _); rotate_left; (next => first | omega | exact Nat.le_refl _ | (refine Below.size (B := ?_) ?_; rotate_left; assumption) | (simp; done) | (simp; omega))) | ((with_reducible refine Below.alloc ?_ ?_ _); rotate_left; (next => first | omega | exact Nat.le_refl _ | (refine Below.size (B := ?_) ?_; rotate_left; assumption) | (simp; done) | (simp; omega))) | ((with_reducible refine Below.trans (b := ?_) ?_ (Below.mono (B := ?_) ?_ ?_)); rotate_left 3; (next => (with_reducible assumption)); (next => first | omega | exact Nat.le_refl _ | (refine Below.size (B := ?_) ?_; rotate_left; assumption) | (simp; done) | (simp; omega))) | exact Below.refl _ _ | assumption | refine Below.drew ?_ | refine below_drewN ?_ _ | refine Below.alloc ?_ (by first | omega | exact Below.size (by assumption) | (simp; done) | (simp; omega)) _ | refine Below.setCell ?_ (by first | omega | exact Below.size (by assumption) | (simp; done) | (simp; omega)) _ | refine Below.trans ?_ (Below.mono (by assumption) (by first | omega | exact Below.size (by assumption) | (simp; done) | (simp; omega)))))
  have hs1 := hB1.size
  have c1_0 := fun o => Below.cell hb1 (p := ⟨w.heap.size, o, none⟩) (by first | omega | exact Below.size (by assumption) | (simp; done) | (simp; omega))
  have f1_0 := fun o => Below.frozen hb1 (p := ⟨w.heap.size, o, none⟩) (by first | omega | exact Below.size (by assumption) | (simp; done) | (simp; omega))
  have l1_0 : w.heap.size < w1.heap.size := Nat.lt_of_lt_of_le (by first | omega | exact Below.size (by assumption) | (simp; done) | (simp; omega)) (Below.size hb1)
  have c1_1 := fun o => Below.cell hb1 (p := ⟨w.heap.size + 1, o, none⟩) (by first | omega | exact Below.size (by assumption) | (simp; done) | (simp; omega))
  have l1_1 : w.heap.size + 1 < w1.heap.size := Nat.lt_of_lt_of_le (by first | omega | exact Below.size (by assumption) | (simp; done) | (simp; omega)) (Below.size hb1)
  have c1_2 := fun o => Below.cell hb1 (p := ⟨w.heap.size + 1 + 1, o, none⟩) (by first | omega | exact Below.size (by assumption) | (simp; done) | (simp; omega))
  have f1_2 := fun o => Below.frozen hb1 (p := ⟨w.heap.size + 1 + 1, o, none⟩) (by first | omega | exact Below.size (by assumption) | (simp; done) | (simp; omega))
  have l1_2 : w.heap.size + 1 + 1 < w1.heap.size := Nat.lt_of_lt_of_le (by first | omega | exact Below.size (by assumption) | (simp; done) | (simp; omega)) (Below.size hb1)
  have k1 : w.heap.size + 1 + 1 < w1.heap.size := l1_2
  go_wp2_with fail
  refine (HC.out _ hB1).mono ?_
  rintro e w2 ⟨v0, rfl, ho, hb2⟩
  have c2_0 := fun o => Below.cell hb2 (p := ⟨w.heap.size, o, none⟩) (by first | omega | exact Below.size (by assumption) | (simp; done) | (simp; omega))
  have f2_0 := fun o => Below.frozen hb2 (p := ⟨w.heap.size, o, none⟩) (by first | omega | exact Below.size (by assumption) | (simp; done) | (simp; omega))
  have l2_0 : w.heap.size < w2.heap.size := Nat.lt_of_lt_of_le (by first | omega | exact Below.size (by assumption) | (simp; done) | (simp; omega)) (Below.size hb2)
  have c2_1 := fun o => Below.cell hb2 (p := ⟨w.heap.size + 1, o, none⟩) (by first | omega | exact Below.size (by assumption) | (simp; done) | (simp; omega))
  have l2_1 : w.heap.size + 1 < w2.heap.size := Nat.lt_of_lt_of_le (by first | omega | exact Below.size (by assumption) | (simp; done) | (simp; omega)) (Below.size hb2)
  have c2_2 := fun o => Below.cell hb2 (p := ⟨w.heap.size + 1 + 1, o, none⟩) (by first | omega | exact Below.size (by assumption) | (simp; done) | (simp; omega))
  have f2_2 := fun o => Below.frozen hb2 (p := ⟨w.heap.size + 1 + 1, o, none⟩) (by first | omega | exact Below.size (by assumption) | (simp; done) | (simp; omega))
  have l2_2 : w.heap.size + 1 + 1 < w2.heap.size := Nat.lt_of_lt_of_le (by first | omega | exact Below.size (by assumption) | (simp; done) | (simp; omega)) (Below.size hb2)
  have hB2 : Below w.heap.size w w2 := hB1.trans (hb2.mono hB1.size)
  have k2 : w.heap.size + 1 + 1 < w2.heap.size := l2_2
  have K12 : w1.heap.size ≤ w2.heap.size := hb2.size
  obtain ⟨A', c', rfl, hlc, _, _⟩ := ho.form
  rw [Hn.out] at ho hlc ⊢
  have Ho := Lib.hid ho
  clear ho hb1 hb2
  go_upto_region 5 with (fail)
  generalize hW : w2.setCell _ _ = W3
  have HW := Lib.hid hW
  clear hW
  have q0 : W3.cell? ⟨w.heap.size, 0, none⟩ = some (.slice A' n c') := by
    rw [← HW.out]
    exact World.cell?_setCell_same _ _ _ (show w2.cell? ⟨w.heap.size, 0, none⟩ = some (.slice A n c) from by rw [c2_0, c1_0]; simp [go_sem])
  have q1 : W3.cell? ⟨w.heap.size, 1, none⟩ = some (.int .i64 most) := by rw [← HW.out, World.cell?_setCell_other _ _ _ _ (by simp), c2_0, c1_0]; simp [go_sem]
  have q2 : W3.cell? ⟨w.heap.size, 2, none⟩ = some (.int .i64 mb) := by rw [← HW.out, World.cell?_setCell_other _ _ _ _ (by simp), c2_0, c1_0]; simp [go_sem]
  have q3 : W3.cell? ⟨w.heap.size, 3, none⟩ = some (.int .i64 drops) := by rw [← HW.out, World.cell?_setCell_other _ _ _ _ (by simp), c2_0, c1_0]; simp [go_sem]
  have q4 : ∀ o, W3.frozen? ⟨w.heap.size, o, none⟩ = false := fun o => by rw [← HW.out, World.frozen?_setCell, f2_0, f1_0]; simp [go_sem]
  have e0 : ∀ o, W3.cell? ⟨w.heap.size + 1, o, none⟩ = (#[(.int .i64 2), (.int .i64 v)] : Array Value)[o]? := fun o => by
    rw [← HW.out, World.cell?_setCell_other _ _ _ _ (by simp), c2_1, c1_1]; simp [go_sem]
  have r0 : ∀ o, W3.cell? ⟨w.heap.size + 1 + 1, o, none⟩ = (#[.slice none 0 0, (.int .i64 0), (.int .i64 0), (.int .i64 0)] : Array Value)[o]? := fun o => by
    rw [← HW.out, World.cell?_setCell_other _ _ _ _ (by simp only [ne_eq, Addr.mk.injEq, not_and]; omega), c2_2, c1_2]; simp [go_sem]
  have r1 : ∀ o, W3.frozen? ⟨w.heap.size + 1 + 1, o, none⟩ = false := fun o => by rw [← HW.out, World.frozen?_setCell, f2_2, f1_2]; simp [go_sem]
  have hB3 : Below w.heap.size w W3 := by rw [← HW.out]; exact hB2.setCell (Nat.le_refl _) _
  have k3 : W3.heap.size = w2.heap.size := by rw [← HW.out]; simp [World.setCell]
  have Ho3 : Hid (OwnI W3 w1.heap.size 3 .i64 (.slice A' n c') zs) := Lib.hid (by
    rw [← HW.out]
    exact OwnI.upd (b := w.heap.size) (o := 0) (n := 4) Ho.out ((Upd.refl _ _ _ _).setCell (by omega) (by omega) _) (fun g hg => by have := (World.ownsRow.lt Ho.out g hg).1; omega))
  have k4 : w1.heap.size ≤ W3.heap.size := by
    have := hB2.size
    rw [k3]
    exact K12
  clear HW Ho HR HC c1_0 c1_1 c1_2 c2_0 c2_1 c2_2 f1_0 f1_2 f2_0 f2_2 l1_0 l1_1 l1_2 l2_0 l2_1 l2_2 hB1 hB2 hs1
  have hz : 0 < zs.length := by have := Hn.out; omega
  obtain ⟨g, cg, hv, hgc, hg1, hg2⟩ := Ho3.out.formNE hz
  injection hv with hv1 hv2 hv3
  subst hv1 hv3
  have hq := Ho3.out
  rw [← Hn.out] at hq
  have hc0 := OwnI.cell hq (j := 0) hz
  clear hq
  have Hz : Hid (∃ z l, zs = z :: l) := Lib.hid (by
    match zs, hz with
    | z :: l, _ => exact ⟨z, l, rfl⟩)
  obtain ⟨z, l, hzl⟩ := Hz.out
  subst hzl
  simp only [List.getElem_cons_zero] at hc0
  have Hlen : Hid (l.length = n - 1) := Lib.hid (by have := Hn.out; simp at this; omega)
  have HC2 : Hid (∀ W A2 c2, Below W3.heap.size W3 W → RdI .i64 W A2 l → Calls Tryz.prog 31 #[.slice A2 (n - 1) c2] W fun e w' => ∃ v, e = .returned v ∧ OwnI w' W.heap.size 3 .i64 v l ∧ Below W.heap.size W w') := Lib.hid fun W A2 c2 _ hrl => clone_own A2 (n - 1) c2 l W hrl Hlen.out (by omega)
  have k5 : w.heap.size + 1 + 1 < W3.heap.size := by omega
  have hne : ((n : Int) == 0) = false := by simp; omega
  clear hv2
  have hnc : (1 : Nat) ≤ c' := by omega
  by_cases hcg : c' = 1
  · have hl0 : l.length = 0 := by have := Hlen.out; omega
    go_wp2_with fail
    refine (HC2.out _ _ _ (Below.refl _ _) (RdI.len0 hl0)).mono ?_
    rintro e w5 ⟨v5, rfl, ho5, hb5⟩
    have c5_0 := fun o => Below.cell hb5 (p := ⟨w.heap.size, o, none⟩) (by first | omega | exact Below.size (by assumption) | (simp; done) | (simp; omega))
    have f5_0 := fun o => Below.frozen hb5 (p := ⟨w.heap.size, o, none⟩) (by first | omega | exact Below.size (by assumption) | (simp; done) | (simp; omega))
    have l5_0 : w.heap.size < w5.heap.size := Nat.lt_of_lt_of_le (by first | omega | exact Below.size (by assumption) | (simp; done) | (simp; omega)) (Below.size hb5)
    have c5_1 := fun o => Below.cell hb5 (p := ⟨w.heap.size + 1, o, none⟩) (by first | omega | exact Below.size (by assumption) | (simp; done) | (simp; omega))
    have l5_1 : w.heap.size + 1 < w5.heap.size := Nat.lt_of_lt_of_le (by first | omega | exact Below.size (by assumption) | (simp; done) | (simp; omega)) (Below.size hb5)
    have c5_2 := fun o => Below.cell hb5 (p := ⟨w.heap.size + 1 + 1, o, none⟩) (by first | omega | exact Below.size (by assumption) | (simp; done) | (simp; omega))
    have f5_2 := fun o => Below.frozen hb5 (p := ⟨w.heap.size + 1 + 1, o, none⟩) (by first | omega | exact Below.size (by assumption) | (simp; done) | (simp; omega))
    have l5_2 : w.heap.size + 1 + 1 < w5.heap.size := Nat.lt_of_lt_of_le (by first | omega | exact Below.size (by assumption) | (simp; done) | (simp; omega)) (Below.size hb5)
    have hB5 : Below w.heap.size w w5 := hB3.trans (hb5.mono hB3.size)
    have k6 : w.heap.size + 1 + 1 < w5.heap.size := l5_2
    obtain ⟨A7, c7, rfl, hlc7, hrd7, hblk7⟩ := ho5.form
    rw [Hlen.out] at hlc7 ⊢
    have Hown := Lib.hid ho5
    clear ho5 hb5 hrd7 hblk7
    go_wp2_with fail
    refine bodyPost_ret (v := .tuple #[.agg #[.slice A7 (n - 1) c7, (.int .i64 most), (.int .i64 mb), (.int .i64 drops)], (.int .i64 z), (.int .i64 0)]) (by simp [results, Tryz.results41, go_sem, *]) rfl ?_
    refine ⟨A7, c7, by rw [List.tail_cons, Hlen.out, List.headD_cons], by rw [List.tail_cons, Hlen.out]; exact hlc7, OwnI.rdf (by omega) (OwnI.upd (b := w.heap.size + 1 + 1) (o := 0) (n := 4) (OwnI.upd (b := w.heap.size) (o := 0) (n := 4) Hown.out ((Upd.refl _ _ _ _).setCell (by omega) (by omega) _) (fun g hg => by have := (World.ownsRow.lt Hown.out g hg).1; omega)) (((((Upd.refl _ _ _ _).setCell (by omega) (by omega) _).setCell (by omega) (by omega) _).setCell (by omega) (by omega) _).setCell (by omega) (by omega) _) (fun g hg => by have := (World.ownsRow.lt Hown.out g hg).1; omega)), (by repeat (first | (with_reducible exact Below.refl _ _) | (with_reducible assumption) | (with_reducible refine Below.drew ?_) | (with_reducible refine below_drewN ?_ _) | ((with_reducible refine Below.setCell ?_ ?_ _); rotate_left; (next => first | omega | exact Nat.le_refl _ | (refine Below.size (B := ?_) ?_; rotate_left; assumption) | (simp; done) | (simp; omega))) | ((with_reducible refine Below.alloc ?_ ?_ _); rotate_left; (next => first | omega | exact Nat.le_refl _ | (refine Below.size (B := ?_) ?_; rotate_left; assumption) | (simp; done) | (simp; omega))) | ((with_reducible refine Below.trans (b := ?_) ?_ (Below.mono (B := ?_) ?_ ?_)); rotate_left 3; (next => (with_reducible assumption)); (next => first | omega | exact Nat.le_refl _ | (refine Below.size (B := ?_) ?_; rotate_left; assumption) | (simp; done) | (simp; omega)))))⟩
  · go_wp2_with fail
    refine (HC2.out _ _ _ (Below.refl _ _) (RdI.tail (OwnI.rd Ho3.out))).mono ?_
    rintro e w5 ⟨v5, rfl, ho5, hb5⟩
    have c5_0 := fun o => Below.cell hb5 (p := ⟨w.heap.size, o, none⟩) (by first | omega | exact Below.size (by assumption) | (simp; done) | (simp; omega))
    have f5_0 := fun o => Below.frozen hb5 (p := ⟨w.heap.size, o, none⟩) (by first | omega | exact Below.size (by assumption) | (simp; done) | (simp; omega))
    have l5_0 : w.heap.size < w5.heap.size := Nat.lt_of_lt_of_le (by first | omega | exact Below.size (by assumption) | (simp; done) | (simp; omega)) (Below.size hb5)
    have c5_1 := fun o => Below.cell hb5 (p := ⟨w.heap.size + 1, o, none⟩) (by first | omega | exact Below.size (by assumption) | (simp; done) | (simp; omega))
    have l5_1 : w.heap.size + 1 < w5.heap.size := Nat.lt_of_lt_of_le (by first | omega | exact Below.size (by assumption) | (simp; done) | (simp; omega)) (Below.size hb5)
    have c5_2 := fun o => Below.cell hb5 (p := ⟨w.heap.size + 1 + 1, o, none⟩) (by first | omega | exact Below.size (by assumption) | (simp; done) | (simp; omega))
    have f5_2 := fun o => Below.frozen hb5 (p := ⟨w.heap.size + 1 + 1, o, none⟩) (by first | omega | exact Below.size (by assumption) | (simp; done) | (simp; omega))
    have l5_2 : w.heap.size + 1 + 1 < w5.heap.size := Nat.lt_of_lt_of_le (by first | omega | exact Below.size (by assumption) | (simp; done) | (simp; omega)) (Below.size hb5)
    have hB5 : Below w.heap.size w w5 := hB3.trans (hb5.mono hB3.size)
    have k6 : w.heap.size + 1 + 1 < w5.heap.size := l5_2
    obtain ⟨A7, c7, rfl, hlc7, hrd7, hblk7⟩ := ho5.form
    rw [Hlen.out] at hlc7 ⊢
    have Hown := Lib.hid ho5
    clear ho5 hb5 hrd7 hblk7
    go_wp2_with fail
    refine bodyPost_ret (v := .tuple #[.agg #[.slice A7 (n - 1) c7, (.int .i64 most), (.int .i64 mb), (.int .i64 drops)], (.int .i64 z), (.int .i64 0)]) (by simp [results, Tryz.results41, go_sem, *]) rfl ?_
    refine ⟨A7, c7, by rw [List.tail_cons, Hlen.out, List.headD_cons], by rw [List.tail_cons, Hlen.out]; exact hlc7, OwnI.rdf (by omega) (OwnI.upd (b := w.heap.size + 1 + 1) (o := 0) (n := 4) (OwnI.upd (b := w.heap.size) (o := 0) (n := 4) Hown.out ((Upd.refl _ _ _ _).setCell (by omega) (by omega) _) (fun g hg => by have := (World.ownsRow.lt Hown.out g hg).1; omega)) (((((Upd.refl _ _ _ _).setCell (by omega) (by omega) _).setCell (by omega) (by omega) _).setCell (by omega) (by omega) _).setCell (by omega) (by omega) _) (fun g hg => by have := (World.ownsRow.lt Hown.out g hg).1; omega)), (by repeat (first | (with_reducible exact Below.refl _ _) | (with_reducible assumption) | (with_reducible refine Below.drew ?_) | (with_reducible refine below_drewN ?_ _) | ((with_reducible refine Below.setCell ?_ ?_ _); rotate_left; (next => first | omega | exact Nat.le_refl _ | (refine Below.size (B := ?_) ?_; rotate_left; assumption) | (simp; done) | (simp; omega))) | ((with_reducible refine Below.alloc ?_ ?_ _); rotate_left; (next => first | omega | exact Nat.le_refl _ | (refine Below.size (B := ?_) ?_; rotate_left; assumption) | (simp; done) | (simp; omega))) | ((with_reducible refine Below.trans (b := ?_) ?_ (Below.mono (B := ?_) ?_ ?_)); rotate_left 3; (next => (with_reducible assumption)); (next => first | omega | exact Nat.le_refl _ | (refine Below.size (B := ?_) ?_; rotate_left; assumption) | (simp; done) | (simp; omega)))))⟩

end Go.Proofs.YtoibebmhfcjpfaaGreatDoor.Ring

namespace Go.Proofs.YtoibebmhfcjpfaaGreatDoor.Ring
open Go.RowKit Go.Proofs.YtoibebmhfcjpfaaGreatDoor.Big

end Go.Proofs.YtoibebmhfcjpfaaGreatDoor.Ring
