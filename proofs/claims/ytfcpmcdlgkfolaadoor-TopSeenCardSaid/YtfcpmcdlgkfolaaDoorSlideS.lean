/- Walk: slide.Sum. -/
import Derived.Test.YtfcpmcdlgkfolaaDoorSlideA
import Derived.Test.YtfcpmcdlgkfolaaDoorQV
namespace Go.Proofs.YtfcpmcdlgkfolaaDoor.Slide
open Go.RowKit Go.Proofs.YtfcpmcdlgkfolaaDoor.Big

theorem infoI8 : (Tryd.prog.info? 3).map (fun i => (i.zero, i.size, i.bytes)) = some (some (.int .i64 0), 1, 8) := by kernel_rfl

/-- An error, and nothing. -/
theorem sum_bad (wd : Int) (A : Option Addr) (n c : Nat) (l : List Int) (w : World) (hr : RdI .i64 w A l) (hn : l.length = n) (hm : n ≤ 140737488355328) (h : bad wd l = true) :
    Calls Tryd.prog 23 #[(.int .i64 wd), .slice A n c] w fun e w' => e = .returned (.tuple #[.slice none 0 0, (.int .i64 2)]) ∧ Below w.heap.size w w' := by
  have HW := Lib.hid (h ▸ wrong_any wd A n c l w hr hn hm)
  clear hr hn h
  go_enter Tryd.func23, Tryd.ntmps23
  go_wp2_with fail
  refine HW.out.mono ?_
  rintro e w1 ⟨rfl, rfl⟩
  go_wp2_with fail
  go_ret2
  exact ⟨rfl, (by repeat (first | (with_reducible exact Below.refl _ _) | (with_reducible assumption) | (with_reducible refine Below.drew ?_) | (with_reducible refine below_drewN ?_ _) | ((with_reducible refine Below.setCell ?_ ?_ _); rotate_left; (next => first | omega | exact Nat.le_refl _ | (refine Below.size (B := ?_) ?_; rotate_left; assumption) | (simp; done) | (simp; omega))) | ((with_reducible refine Below.alloc ?_ ?_ _); rotate_left; (next => first | omega | exact Nat.le_refl _ | (refine Below.size (B := ?_) ?_; rotate_left; assumption) | (simp; done) | (simp; omega))) | ((with_reducible refine Below.trans (b := ?_) ?_ (Below.mono (B := ?_) ?_ ?_)); rotate_left 3; (next => (with_reducible assumption)); (next => first | omega | exact Nat.le_refl _ | (refine Below.size (B := ?_) ?_; rotate_left; assumption) | (simp; done) | (simp; omega)))))⟩

theorem good_parts {wd : Int} {l : List Int} (h : bad wd l = false) : 1 ≤ wd ∧ wd ≤ 400 ∧ l.length ≤ 400 ∧ l.all uok = true := by
  simp only [bad, Bool.or_eq_false_iff, decide_eq_false_iff_not, Bool.not_eq_false'] at h
  exact ⟨by omega, by omega, by omega, h.2⟩

set_option maxHeartbeats 1000000 in
theorem sum_ok (wd : Int) (A : Option Addr) (n c : Nat) (l : List Int) (w : World) (hr : RdI .i64 w A l) (hn : l.length = n) (h : bad wd l = false) :
    Calls Tryd.prog 23 #[(.int .i64 wd), .slice A n c] w fun e w' => ∃ v, e = .returned (.tuple #[v, (.int .i64 0)]) ∧ OwnI w' w.heap.size 3 .i64 v (sums l wd.toNat n) ∧ Below w.heap.size w w' := by
  have HW := Lib.hid (h ▸ wrong_any wd A n c l w hr hn (by have := (good_parts h).2.2.1; omega))
  obtain ⟨g1, g2, g3, g4⟩ := good_parts h
  rw [hn] at g3
  obtain ⟨d, rfl⟩ : ∃ d : Nat, wd = d := ⟨wd.toNat, by omega⟩
  simp only [Int.toNat_natCast]
  have Hbd : Hid (∀ k, -1000000000000 ≤ ws l d k ∧ ws l d k ≤ 1000000000000) := Lib.hid fun k => ws_bd g4 (by omega) d k
  have Hall := Lib.hid g4
  have Hr := Lib.hid hr
  have Hn := Lib.hid hn
  clear hr hn h g4
  go_enter Tryd.func23, Tryd.ntmps23
  go_wp2_with fail
  refine HW.out.mono ?_
  rintro e w1 ⟨rfl, rfl⟩
  go_wp2_with fail
  go_loopw [6, 7, 15] (fun s v i wr => ∃ k : Nat, k ≤ n ∧ i = .int .i64 k ∧ s = .int .i64 (ws l d k) ∧ OwnI wr w.heap.size 3 .i64 v (sums l d k) ∧ Below w.heap.size w wr) (fun _ _ i _ => n - (intOf i).toNat)
  case atStart => exact ⟨0, by omega, rfl, by rw [ws_zero], OwnI.nil _ _ _ _, (by repeat (first | (with_reducible exact Below.refl _ _) | (with_reducible assumption) | (with_reducible refine Below.drew ?_) | (with_reducible refine below_drewN ?_ _) | ((with_reducible refine Below.setCell ?_ ?_ _); rotate_left; (next => first | omega | exact Nat.le_refl _ | (refine Below.size (B := ?_) ?_; rotate_left; assumption) | (simp; done) | (simp; omega))) | ((with_reducible refine Below.alloc ?_ ?_ _); rotate_left; (next => first | omega | exact Nat.le_refl _ | (refine Below.size (B := ?_) ?_; rotate_left; assumption) | (simp; done) | (simp; omega))) | ((with_reducible refine Below.trans (b := ?_) ?_ (Below.mono (B := ?_) ?_ ?_)); rotate_left 3; (next => (with_reducible assumption)); (next => first | omega | exact Nat.le_refl _ | (refine Below.size (B := ?_) ?_; rotate_left; assumption) | (simp; done) | (simp; omega)))))⟩
  case round =>
    obtain ⟨k, hk, rfl, rfl, ho, hbw⟩ := hrel
    have hsz := hbw.size
    have Ho := Lib.hid ho
    have hbd := Hbd.out k
    clear ho
    by_cases hlt : k < n
    · have hl : k < l.length := by have := Hn.out; omega
      obtain ⟨b, off, rfl, hbl, hc⟩ := RdI.atn Hr.out hbw hl
      have hbd2 := Hbd.out (k + 1)
      have hx := uok_iff.1 (List.all_eq_true.1 Hall.out _ (List.getElem_mem hl))
      have Hs := Lib.hid (sums_succ l d k)
      obtain ⟨x, Hx⟩ : ∃ x, Hid (l[k] = x) := ⟨_, Lib.hid rfl⟩
      rw [Hx.out] at hc hx
      obtain ⟨s, Hws⟩ : ∃ x, Hid (ws l d k = x) := ⟨_, Lib.hid rfl⟩
      obtain ⟨s', Hws'⟩ : ∃ x, Hid (ws l d (k + 1) = x) := ⟨_, Lib.hid rfl⟩
      rw [Hws.out] at hbd ⊢
      rw [Hws'.out] at hbd2 Hs
      have hwx : IntKind.i64.wrap (s + x) = s + x := IntWalk.i64_in _ (by omega)
      by_cases hkd : k < d
      · have he : Hid (s' = s + x) := Lib.hid (by rw [← Hws'.out, ← Hws.out, ← Hx.out]; exact ws_lt hl hkd)
        go_wp2_with (at_builtin; refine wpList_app1 rfl _ _ 39 rfl 3 .i64 8 Tryd.underlying39 infoI8 w.heap.size (sums l d k) s' _ rfl _ rfl (by decide) ?own ?cell ?len ?base ?_)
        case own => exact Ho.out.alloc _
        case cell => (rw [he.out]; try simp [go_sem])
        case len => (have := sums_len l d k; omega)
        case base => first | omega | (simp; done) | (simp; omega)
        intro v' w2 hown hgr
        have hB2 : Below w.heap.size w w2 := Below.grown (hbw.alloc hsz _) hgr (by first | omega | (simp; done) | (simp; omega)) (fun g hg => (World.ownsRow.lt Ho.out g hg).1)
        go_wp2_with fail
        go_roundw
        case rel => exact ⟨k + 1, by omega, by go_num, by rw [Hws'.out, he.out], by rw [Hs.out]; exact hown, hB2⟩
        case measure => first | (simp [intOf]; done) | (simp [intOf]; omega)
      · have hl2 : k - d < l.length := by omega
        obtain ⟨b2, off2, hA, _, hc2⟩ := RdI.atn Hr.out hbw hl2
        injection hA with hA
        injection hA with hA1 hA2 hA3
        subst hA1 hA2
        have hy := uok_iff.1 (List.all_eq_true.1 Hall.out _ (List.getElem_mem hl2))
        have he : Hid (s' = s + x - l[k - d]) := Lib.hid (by rw [← Hws'.out, ← Hws.out, ← Hx.out]; exact ws_ge hl (by omega) (by omega))
        obtain ⟨y, Hy⟩ : ∃ x, Hid (l[k - d] = x) := ⟨_, Lib.hid rfl⟩
        rw [Hy.out] at hc2 hy he
        have hkd2 : ((k : Int) - (d : Int)) = ((k - d : Nat) : Int) := by omega
        go_wp2_with (at_builtin; refine wpList_app1 rfl _ _ 39 rfl 3 .i64 8 Tryd.underlying39 infoI8 w.heap.size (sums l d k) s' _ rfl _ rfl (by decide) ?own ?cell ?len ?base ?_)
        case own => exact Ho.out.alloc _
        case cell => (rw [he.out]; try simp [go_sem])
        case len => (have := sums_len l d k; omega)
        case base => first | omega | (simp; done) | (simp; omega)
        intro v' w2 hown hgr
        have hB2 : Below w.heap.size w w2 := Below.grown (hbw.alloc hsz _) hgr (by first | omega | (simp; done) | (simp; omega)) (fun g hg => (World.ownsRow.lt Ho.out g hg).1)
        go_wp2_with fail
        go_roundw
        case rel => exact ⟨k + 1, by omega, by go_num, by rw [Hws'.out, he.out], by rw [Hs.out]; exact hown, hB2⟩
        case measure => first | (simp [intOf]; done) | (simp [intOf]; omega)
    · obtain rfl : k = n := by omega
      go_wp2_with fail
      go_ret2
      exact ⟨_, rfl, Ho.out, (by repeat (first | (with_reducible exact Below.refl _ _) | (with_reducible assumption) | (with_reducible refine Below.drew ?_) | (with_reducible refine below_drewN ?_ _) | ((with_reducible refine Below.setCell ?_ ?_ _); rotate_left; (next => first | omega | exact Nat.le_refl _ | (refine Below.size (B := ?_) ?_; rotate_left; assumption) | (simp; done) | (simp; omega))) | ((with_reducible refine Below.alloc ?_ ?_ _); rotate_left; (next => first | omega | exact Nat.le_refl _ | (refine Below.size (B := ?_) ?_; rotate_left; assumption) | (simp; done) | (simp; omega))) | ((with_reducible refine Below.trans (b := ?_) ?_ (Below.mono (B := ?_) ?_ ?_)); rotate_left 3; (next => (with_reducible assumption)); (next => first | omega | exact Nat.le_refl _ | (refine Below.size (B := ?_) ?_; rotate_left; assumption) | (simp; done) | (simp; omega)))))⟩
end Go.Proofs.YtfcpmcdlgkfolaaDoor.Slide
