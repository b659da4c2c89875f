/- The walk of the law SlideTells. -/
import Derived.Test.YtlmnlffbbbcodaaSlideT
import Derived.Test.YtlmnlffbbbcodaaSlideU
import Derived.Test.YtlmnlffbbbcodaaSlideV
import Derived.Test.YtlmnlffbbbcodaaQR
import Derived.Test.YtlmnlffbbbcodaaEqInt
import Derived.BigQuiet
import Derived.Deep.QuietTactic
import Derived.Deep.Cut
namespace Go.Proofs.Ytlmnlffbbbcodaa.SlideTells
open Go.RowKit Go.Proofs.Ytlmnlffbbbcodaa.Big Go.Proofs.Ytlmnlffbbbcodaa.Slide

/-- A call that answers a slice of numbers, and an error. -/
def Ans (m : Nat) (er : Int) (zs : List Int) (w : World) (e : Ending) (w' : World) : Prop :=
  ∃ (A' : Option Addr) (c' : Nat), e = .returned (.tuple #[.slice A' m c', (.int .i64 er)]) ∧ RdI .i64 w' A' zs ∧ Below w.heap.size w w'

theorem smooth_both (sh fi : Int) (A : Option Addr) (n c : Nat) (l : List Int) (w : World) (hr : RdI .i64 w A l) (hn : l.length = n) (hm : n ≤ 140737488355328) :
    ∃ (m : Nat) (er : Int) (zs : List Int), zs.length = m ∧ m ≤ 400 ∧ (∀ W, Below w.heap.size w W → Calls Try.prog 46 #[(.int .i64 sh), (.int .i64 fi), .slice A n c] W fun e w' => Ans m er zs W e w') ∧ (∀ W, Below w.heap.size w W → Calls Try.prog 47 #[(.int .i64 sh), (.int .i64 fi), .slice A n c] W fun e w' => Ans m er zs W e w') := by
  rcases bads_or sh fi l with h | ⟨h0, h1, h2, h3, h4⟩
  · exact ⟨0, 2, [], rfl, by omega, fun W hW => (smooth_bad sh fi A n c l W (hr.below hW) hn hm h).mono fun e w' ⟨h1, h2⟩ => ⟨none, 0, h1, .inl rfl, h2⟩, fun W hW => (usmooth_bad sh fi A n c l W (hr.below hW) hn hm h).mono fun e w' ⟨h1, h2⟩ => ⟨none, 0, h1, .inl rfl, h2⟩⟩
  · obtain ⟨s, rfl⟩ : ∃ s : Nat, sh = s := ⟨sh.toNat, by omega⟩
    have := (good_parts h2).2.2.1
    exact ⟨n, 0, avgs (2 ^ s) (fi * 2 ^ s) l n, avgs_len _ _ _ _, by omega, fun W hW => smooth_ok s fi A n c l W (hr.below hW) hn (by omega) h2 h3 h4, fun W hW => usmooth_ok s fi A n c l W (hr.below hW) hn (by omega) h2 h3 h4⟩

set_option maxRecDepth 100000 in
set_option maxHeartbeats 2000000 in
theorem walk (wd sh fi : Int) (A : Option Addr) (n c : Nat) (l : List Int) (w : World) (hr : RdI .i64 w A l) (hn : l.length = n) (hm : n ≤ 140737488355328) (hc : n ≤ c) :
    Calls Try.prog 8 #[(.int .i64 wd), (.int .i64 sh), (.int .i64 fi), .slice A n c] w fun e w' => e = .returned (.bool true) ∧ Below w.heap.size w w' := by
  obtain ⟨m, er, zs, hz, hz2, hsm, hus⟩ := smooth_both sh fi A n c l w hr hn hm
  have HSM := Lib.hid hsm
  have HUS := Lib.hid hus
  have Hz := Lib.hid hz
  clear hsm hus hz
  have HE : Hid (∀ (W : World) (A1 A2 : Option Addr) (c1 c2 : Nat), RdI .i64 W A1 zs → RdI .i64 W A2 zs → Calls Try.prog 30 #[.slice A1 m c1, .slice A2 m c2] W fun e w' => e = .returned (.bool true) ∧ ∃ q, w' = W.drewN q) :=
    Lib.hid fun W A1 A2 c1 c2 h2 h3 => equal_ints A1 A2 m c1 c2 zs W h2 h3 Hz.out (by omega)
  have HU : Hid (∀ W, Below w.heap.size w W → Calls Try.prog 48 #[(.int .i64 wd), .slice A n c] W fun e w' => e = .returned (.bool (bad wd l)) ∧ W = w') := Lib.hid fun W hW => uwrong_any wd A n c l W (hr.below hW) hn hm
  cases h : bad wd l
  · rw [h] at HU
    obtain ⟨g1, g2, g3, g4⟩ := good_parts h
    obtain ⟨d, rfl⟩ : ∃ d : Nat, wd = d := ⟨wd.toNat, by omega⟩
    have HM : Hid (∀ W, Below w.heap.size w W → Calls Try.prog 44 #[(.int .i64 d), .slice A n c] W fun e w' => Ans n 0 (maxs l d n) W e w') := Lib.hid fun W hW => most_ok d A n c l W (hr.below hW) hn h
    have HS : Hid (∀ W, Below w.heap.size w W → Calls Try.prog 45 #[(.int .i64 d), .slice A n c] W fun e w' => Ans n 0 (sums l d n) W e w') := Lib.hid fun W hW => (sum_ok d A n c l W (hr.below hW) hn h).mono fun e w' ⟨v, h1, h2, h3⟩ => by
      obtain ⟨A', c', rfl, _, h4, _⟩ := h2.form
      rw [sums_len] at h1
      exact ⟨A', c', h1, h4, h3⟩
    have Hr := Lib.hid hr
    have Hn := Lib.hid hn
    rw [hn] at g3
    have Hall := Lib.hid g4
    clear hr hn h g4
    go_enter Try.func8, Try.ntmps8
    go_wp2_with fail
    refine (HM.out _ (Below.refl _ _)).mono ?_
    rintro e w1 ⟨A1, c1, rfl, hr1, hb1⟩
    have hs1 := hb1.size
    go_wp2_with fail
    refine (HS.out _ hb1).mono ?_
    rintro e w2 ⟨A2, c2, rfl, hr2, hb2⟩
    have hB2 : Below w.heap.size w w2 := hb1.trans (hb2.mono hs1)
    have hs2 := hB2.size
    go_wp2_with fail
    refine (HSM.out _ hB2).mono ?_
    rintro e w3 ⟨A3, c3, rfl, hr3, hb3⟩
    have hB3 : Below w.heap.size w w3 := hB2.trans (hb3.mono hs2)
    have hs3 := hB3.size
    go_wp2_with fail
    refine (HUS.out _ hB3).mono ?_
    rintro e w4 ⟨A4, c4, rfl, hr4, hb4⟩
    have hB4 : Below w.heap.size w w4 := hB3.trans (hb4.mono hs3)
    have R3 := Lib.hid (RdI.below hr3 hb4)
    have R4 := Lib.hid hr4
    have R2 := Lib.hid (RdI.below hr2 (hb3.trans (hb4.mono hb3.size)))
    have R1 := Lib.hid (RdI.below hr1 (hb2.trans ((hb3.trans (hb4.mono hb3.size)).mono hb2.size)))
    have R0 := Lib.hid (RdI.below Hr.out hB4)
    clear hb1 hb2 hb3 hb4 hr1 hr2 hr3 hr4 hB2 hB3 hs1 hs2 hs3
    have hd0 : (er != er) = false := by simp
    go_wp2_with fail
    refine (HE.out _ _ _ _ _ R3.out R4.out).mono ?_
    rintro e w5 ⟨rfl, q5, rfl⟩
    go_wp2_with fail
    refine (HU.out _ (by repeat (first | (with_reducible exact Below.refl _ _) | (with_reducible assumption) | (with_reducible refine Below.drew ?_) | (with_reducible refine below_drewN ?_ _) | ((with_reducible refine Below.setCell ?_ ?_ _); rotate_left; (next => first | omega | exact Nat.le_refl _ | (refine Below.size (B := ?_) ?_; rotate_left; assumption) | (simp; done) | (simp; omega))) | ((with_reducible refine Below.alloc ?_ ?_ _); rotate_left; (next => first | omega | exact Nat.le_refl _ | (refine Below.size (B := ?_) ?_; rotate_left; assumption) | (simp; done) | (simp; omega))) | ((with_reducible refine Below.trans (b := ?_) ?_ (Below.mono (B := ?_) ?_ ?_)); rotate_left 3; (next => (with_reducible assumption)); (next => first | omega | exact Nat.le_refl _ | (refine Below.size (B := ?_) ?_; rotate_left; assumption) | (simp; done) | (simp; omega)))))).mono ?_
    rintro e w5 ⟨rfl, rfl⟩
    go_wp2_with fail
    go_loopw [97] (fun i W => ∃ k : Nat, k ≤ n ∧ i = .int .i64 k ∧ ∃ q, W = w4.drewN q) (fun i _ => n - (intOf i).toNat)
    case atStart => exact ⟨0, by omega, rfl, _, rfl⟩
    case round =>
      obtain ⟨k, hk, rfl, q, rfl⟩ := hrel
      by_cases hlt : k < n
      · have hl : k < l.length := by have := Hn.out; omega
        obtain ⟨f, HF⟩ : ∃ f : Nat, Hid (f = k + 1 - d) := ⟨_, Lib.hid rfl⟩
        have hfk : f ≤ k := by have := HF.out; omega
        have hlenx : Hid ((l.map (Value.int .i64)).length = n * 1) := Lib.hid (by simp [Hn.out])
        have Hwin : Hid ((((l.map (Value.int .i64)).drop (f * 1)).take ((k + 1 - f) * 1)) = (win l d (k + 1)).map (Value.int .i64)) := Lib.hid (by
          rw [win, List.drop_take, ← HF.out, Nat.mul_one, Nat.mul_one, List.map_take, List.map_drop])
        have Hwl : Hid ((win l d (k + 1)).length = k + 1 - f) := Lib.hid (by rw [win_len (by omega), HF.out])
        have Htw : Hid (tot (win l d (k + 1)) = ws l d (k + 1)) := Lib.hid (tot_win _ _ _)
        have hbd := ws_bd Hall.out (by have := Hn.out; omega) d (k + 1)
        have Hwall : Hid ((win l d (k + 1)).all uok = true) := Lib.hid (by
          rw [List.all_eq_true]
          exact fun x hx => List.all_eq_true.1 Hall.out x (List.mem_of_mem_take (List.mem_of_mem_drop hx)))
        have k1 : k < (maxs l d n).length := by rw [maxs_len]; exact hlt
        have k2 : k < (sums l d n).length := by rw [sums_len]; exact hlt
        obtain ⟨b1, o1, rfl, hx1⟩ := R1.out.at_ k1
        obtain ⟨b2, o2, rfl, hx2⟩ := R2.out.at_ k2
        rw [maxs_get] at hx1
        rw [sums_get] at hx2
        clear k1 k2
        rcases (by have := HF.out; omega : ((k : Int) - d + 1 < 0 ∧ f = 0) ∨ (0 ≤ (k : Int) - d + 1 ∧ (k : Int) - d + 1 = f)) with ⟨e1, e2⟩ | ⟨e1, e2⟩
        all_goals
          try replace e2 : Hid (f = 0) := Lib.hid e2
          go_wp2_with ((with_reducible refine wpList_cutRLH ?_); refine ⟨3, 1, n, c, f, k + 1, _, A, .i64, .i64, Try.underlying23, by kernel_rfl, rfl, (by first | rfl | (rw [e2.out]; rfl)), rfl, RdI.below R0.out (by repeat (first | (with_reducible exact Below.refl _ _) | (with_reducible assumption) | (with_reducible refine Below.drew ?_) | (with_reducible refine below_drewN ?_ _) | ((with_reducible refine Below.setCell ?_ ?_ _); rotate_left; (next => first | omega | exact Nat.le_refl _ | (refine Below.size (B := ?_) ?_; rotate_left; assumption) | (simp; done) | (simp; omega))) | ((with_reducible refine Below.alloc ?_ ?_ _); rotate_left; (next => first | omega | exact Nat.le_refl _ | (refine Below.size (B := ?_) ?_; rotate_left; assumption) | (simp; done) | (simp; omega))) | ((with_reducible refine Below.trans (b := ?_) ?_ (Below.mono (B := ?_) ?_ ?_)); rotate_left 3; (next => (with_reducible assumption)); (next => first | omega | exact Nat.le_refl _ | (refine Below.size (B := ?_) ?_; rotate_left; assumption) | (simp; done) | (simp; omega))))), hlenx.out, hc, by omega, by omega, ?_⟩; intro A5 c5 hc5 hr5)
          rw [Hwin.out] at hr5
          have Hr5 : Hid (RdI .i64 (w4.drewN q) A5 (win l d (k + 1))) := Lib.hid hr5
          clear hr5
          go_loop [18, 111] (fun s i => ∃ j : Nat, j ≤ k + 1 - f ∧ i = .int .i64 j ∧ s = .int .i64 (tot ((win l d (k + 1)).take j))) (fun _ i => k + 1 - f - (intOf i).toNat)
          case atStart => exact ⟨0, by omega, rfl, rfl⟩
          case round =>
            obtain ⟨j, hj, rfl, rfl⟩ := hrel
            by_cases hjl : j < k + 1 - f
            · have hjw : j < (win l d (k + 1)).length := by rw [Hwl.out]; exact hjl
              obtain ⟨b5, o5, rfl, hx5⟩ := Hr5.out.at_ hjw
              have hx5' : w4.cell? ⟨b5, o5 + j, none⟩ = some (.int .i64 ((win l d (k + 1))[j])) := hx5
              have hjb := tot_bd_take Hwall.out j
              have hjb2 := tot_bd_take Hwall.out (j + 1)
              rw [Hwl.out] at hjb hjb2
              have Htj := Lib.hid (tot_take hjw)
              rw [Htj.out] at hjb2
              have hjx := uok_iff.1 (List.all_eq_true.1 Hwall.out _ (List.getElem_mem hjw))
              generalize (win l d (k + 1))[j] = x at hx5' hjb2 Htj hjx
              generalize tot ((win l d (k + 1)).take j) = s at hjb hjb2 Htj ⊢
              clear hx5
              go_wp2_with fail
              go_round
              case rel => exact ⟨j + 1, by omega, by go_num, by rw [Htj.out]⟩
              case measure => first | (simp [intOf]; done) | (simp [intOf]; omega)
            · obtain rfl : j = k + 1 - f := by omega
              have Hts : Hid (tot ((win l d (k + 1)).take (k + 1 - f)) = ws l d (k + 1)) := Lib.hid (by rw [List.take_of_length_le (by rw [Hwl.out]; exact Nat.le_refl _), Htw.out])
              rw [Hts.out]
              have hlA : 0 < l.length := by omega
              obtain ⟨bA, oA, rfl, _⟩ := R0.out.at_ hlA
              have hcf : ¬ c = f := by omega
              have hcf0 : ¬ c = 0 := by omega
              have hmm : (mx (win l d (k + 1)) != mx (win l d (k + 1))) = false := by simp
              have hss : (ws l d (k + 1) != ws l d (k + 1)) = false := by simp
              obtain ⟨A6, c6, he6, _, hr6⟩ := Rd.cut (a := f) (b := k + 1) R0.out hlenx.out hc (by omega) (by omega)
              rw [Hwin.out] at hr6
              simp only [sliced, if_neg hcf, Option.map_some, Addr.add_lit, Nat.mul_one, Value.slice.injEq, true_and] at he6
              obtain ⟨rfl, rfl⟩ := he6
              have HMX : Hid (∀ p, Calls Try.prog 49 #[.slice (some ⟨bA, oA + f, none⟩) (k + 1 - f) (c - f)] (w4.drewN p) fun e w' => e = .returned (.int .i64 (mx (win l d (k + 1)))) ∧ w' = w4.drewN p) := Lib.hid fun p => (max_any _ (k + 1 - f) _ _ _ (RdI.below (w := w4) (w' := w4.drewN p) hr6 (by repeat (first | (with_reducible exact Below.refl _ _) | (with_reducible assumption) | (with_reducible refine Below.drew ?_) | (with_reducible refine below_drewN ?_ _) | ((with_reducible refine Below.setCell ?_ ?_ _); rotate_left; (next => first | omega | exact Nat.le_refl _ | (refine Below.size (B := ?_) ?_; rotate_left; assumption) | (simp; done) | (simp; omega))) | ((with_reducible refine Below.alloc ?_ ?_ _); rotate_left; (next => first | omega | exact Nat.le_refl _ | (refine Below.size (B := ?_) ?_; rotate_left; assumption) | (simp; done) | (simp; omega))) | ((with_reducible refine Below.trans (b := ?_) ?_ (Below.mono (B := ?_) ?_ ?_)); rotate_left 3; (next => (with_reducible assumption)); (next => first | omega | exact Nat.le_refl _ | (refine Below.size (B := ?_) ?_; rotate_left; assumption) | (simp; done) | (simp; omega)))))) Hwl.out (by omega) (by omega)).mono fun e w' ⟨h1, h2⟩ => ⟨h1, h2.symm⟩
              clear hr6
              try rw [e2.out, Nat.add_zero, Nat.sub_zero, Nat.sub_zero] at HMX
              go_wp2_with fail
              refine wp_region_quiet_lit (by kernel_rfl) (by kernel_rfl) ?_
              repeat (go_big_quiet_step ((go_at_call 49; exact (HMX.out _).mono fun _ _ h => ⟨h.1, _, h.2⟩)))
              refine wpQuiet_nil ?_
              intro w9 hw9
              obtain ⟨q9, rfl⟩ := hw9
              go_wp2_with fail
              go_roundw
              case rel => exact ⟨k + 1, by omega, by go_num, _, rfl⟩
              case measure => first | (simp [intOf]; done) | (simp [intOf]; omega)
      · go_wp2_with fail
        go_ret
        exact ⟨rfl, (by repeat (first | (with_reducible exact Below.refl _ _) | (with_reducible assumption) | (with_reducible refine Below.drew ?_) | (with_reducible refine below_drewN ?_ _) | ((with_reducible refine Below.setCell ?_ ?_ _); rotate_left; (next => first | omega | exact Nat.le_refl _ | (refine Below.size (B := ?_) ?_; rotate_left; assumption) | (simp; done) | (simp; omega))) | ((with_reducible refine Below.alloc ?_ ?_ _); rotate_left; (next => first | omega | exact Nat.le_refl _ | (refine Below.size (B := ?_) ?_; rotate_left; assumption) | (simp; done) | (simp; omega))) | ((with_reducible refine Below.trans (b := ?_) ?_ (Below.mono (B := ?_) ?_ ?_)); rotate_left 3; (next => (with_reducible assumption)); (next => first | omega | exact Nat.le_refl _ | (refine Below.size (B := ?_) ?_; rotate_left; assumption) | (simp; done) | (simp; omega)))))⟩
  · rw [h] at HU
    have HM : Hid (∀ W, Below w.heap.size w W → Calls Try.prog 44 #[(.int .i64 wd), .slice A n c] W fun e w' => e = .returned (.tuple #[.slice none 0 0, (.int .i64 2)]) ∧ Below W.heap.size W w') := Lib.hid fun W hW => most_bad wd A n c l W (hr.below hW) hn hm h
    have HS : Hid (∀ W, Below w.heap.size w W → Calls Try.prog 45 #[(.int .i64 wd), .slice A n c] W fun e w' => e = .returned (.tuple #[.slice none 0 0, (.int .i64 2)]) ∧ Below W.heap.size W w') := Lib.hid fun W hW => sum_bad wd A n c l W (hr.below hW) hn hm h
    clear hr hn h
    go_enter Try.func8, Try.ntmps8
    go_wp2_with fail
    refine (HM.out _ (Below.refl _ _)).mono ?_
    rintro e w1 ⟨rfl, hb1⟩
    have hs1 := hb1.size
    go_wp2_with fail
    refine (HS.out _ hb1).mono ?_
    rintro e w2 ⟨rfl, hb2⟩
    have hB2 : Below w.heap.size w w2 := hb1.trans (hb2.mono hs1)
    have hs2 := hB2.size
    go_wp2_with fail
    refine (HSM.out _ hB2).mono ?_
    rintro e w3 ⟨A3, c3, rfl, hr3, hb3⟩
    have hB3 : Below w.heap.size w w3 := hB2.trans (hb3.mono hs2)
    have hs3 := hB3.size
    go_wp2_with fail
    refine (HUS.out _ hB3).mono ?_
    rintro e w4 ⟨A4, c4, rfl, hr4, hb4⟩
    have hB4 : Below w.heap.size w w4 := hB3.trans (hb4.mono hs3)
    have R3 := Lib.hid (RdI.below hr3 hb4)
    have R4 := Lib.hid hr4
    clear hb1 hb2 hb3 hb4 hr3 hr4 hB2 hB3 hs1 hs2 hs3
    have hd0 : (er != er) = false := by simp
    go_wp2_with fail
    refine (HE.out _ _ _ _ _ R3.out R4.out).mono ?_
    rintro e w5 ⟨rfl, q5, rfl⟩
    go_wp2_with fail
    refine (HU.out _ (by repeat (first | (with_reducible exact Below.refl _ _) | (with_reducible assumption) | (with_reducible refine Below.drew ?_) | (with_reducible refine below_drewN ?_ _) | ((with_reducible refine Below.setCell ?_ ?_ _); rotate_left; (next => first | omega | exact Nat.le_refl _ | (refine Below.size (B := ?_) ?_; rotate_left; assumption) | (simp; done) | (simp; omega))) | ((with_reducible refine Below.alloc ?_ ?_ _); rotate_left; (next => first | omega | exact Nat.le_refl _ | (refine Below.size (B := ?_) ?_; rotate_left; assumption) | (simp; done) | (simp; omega))) | ((with_reducible refine Below.trans (b := ?_) ?_ (Below.mono (B := ?_) ?_ ?_)); rotate_left 3; (next => (with_reducible assumption)); (next => first | omega | exact Nat.le_refl _ | (refine Below.size (B := ?_) ?_; rotate_left; assumption) | (simp; done) | (simp; omega)))))).mono ?_
    rintro e w5 ⟨rfl, rfl⟩
    go_wp2_with fail
    go_ret
    exact ⟨rfl, (by repeat (first | (with_reducible exact Below.refl _ _) | (with_reducible assumption) | (with_reducible refine Below.drew ?_) | (with_reducible refine below_drewN ?_ _) | ((with_reducible refine Below.setCell ?_ ?_ _); rotate_left; (next => first | omega | exact Nat.le_refl _ | (refine Below.size (B := ?_) ?_; rotate_left; assumption) | (simp; done) | (simp; omega))) | ((with_reducible refine Below.alloc ?_ ?_ _); rotate_left; (next => first | omega | exact Nat.le_refl _ | (refine Below.size (B := ?_) ?_; rotate_left; assumption) | (simp; done) | (simp; omega))) | ((with_reducible refine Below.trans (b := ?_) ?_ (Below.mono (B := ?_) ?_ ?_)); rotate_left 3; (next => (with_reducible assumption)); (next => first | omega | exact Nat.le_refl _ | (refine Below.size (B := ?_) ?_; rotate_left; assumption) | (simp; done) | (simp; omega)))))⟩
end Go.Proofs.Ytlmnlffbbbcodaa.SlideTells
