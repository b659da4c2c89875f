/- Walks: drr.Wrong, drr.turn; the reference's NWrong. -/
import Derived.Test.YtoibebmhfcjpfaaGreatDoorZfDrrM
import Derived.Test.YtoibebmhfcjpfaaGreatDoorZfRdR
import Derived.Test.YtoibebmhfcjpfaaGreatDoorZfQR
namespace Go.Proofs.YtoibebmhfcjpfaaGreatDoor.Drr
open Go.RowKit

set_option maxRecDepth 100000 in
set_option maxHeartbeats 2000000 in
theorem wrong_any (A B : Option Addr) (n m c d : Nat) (ts : List Int) (hs : List Value) (fs : List (List Int)) (w : World) (hr : RdI .i64 w A ts) (hn : ts.length = n) (hR : RdR w B hs fs) (hm : fs.length = m) (hn2 : n ≤ 140737488355328) (hm2 : m ≤ 140737488355328) (hrow : ∀ r ∈ fs, r.length ≤ 140737488355328) :
    Calls Tryz.prog 12 #[.slice A n c, .slice B m d] w fun e w' => e = .returned (.int .i64 (wrongE ts fs)) ∧ w = w' := by
  by_cases hne : n = m
  · subst hne
    have hlen : ts.length = fs.length := by omega
    by_cases hbig : 16 < n
    · have HV : Hid (wrongE ts fs = 2) := Lib.hid (wrong_big hlen (by omega))
      clear hr hn hR hm hlen
      go_enter Tryz.func12, Tryz.ntmps12
      go_wp2_with fail
      go_ret
      exact ⟨ret_int HV.out.symm, rfl⟩
    have Hlen := Lib.hid hlen
    have Hn := Lib.hid hn
    have Hm := Lib.hid hm
    have Hrow := Lib.hid hrow
    clear hn hm hlen hrow
    go_enter Tryz.func12, Tryz.ntmps12
    go_wp2_with fail
    go_loop [19] (fun i => ∃ k : Nat, k ≤ n ∧ i = .int .i64 k ∧ Hid (∀ j (h : j < ts.length) (h2 : j < fs.length), j < k → rowok ts[j] fs[j] = true)) (fun i => n - (intOf i).toNat)
    case atStart => exact ⟨0, by omega, rfl, Lib.hid fun j _ _ h => by omega⟩
    case round =>
      obtain ⟨k, hk, rfl, Hall⟩ := hrel
      by_cases hlt : k < n
      · have h1 : k < ts.length := by have := Hn.out; omega
        have h2 : k < fs.length := by have := Hm.out; omega
        obtain ⟨b, off, rfl, hc⟩ := hr.at_ h1
        obtain ⟨b2, off2, B2, c2, rfl, _, hc2, hle2, hr2⟩ := hR.atr (Below.refl _ _) h2
        have HBad : Hid (rowok ts[k] fs[k] = false → wrongE ts fs = 2) := Lib.hid fun h => wrong_row Hlen.out h1 h
        have hlb := Hrow.out fs[k] (List.getElem_mem h2)
        have Hnext : Hid (rowok ts[k] fs[k] = true → ∀ j (h : j < ts.length) (h2 : j < fs.length), j < k + 1 → rowok ts[j] fs[j] = true) := Lib.hid fun h j a1 a2 a3 => by
          rcases Nat.lt_or_ge j k with h5 | h5
          · exact Hall.out j a1 a2 h5
          · obtain rfl : j = k := by omega
            exact h
        generalize ts[k] = t at hc HBad Hnext
        generalize fs[k] = l at hc2 hle2 hr2 HBad Hnext hlb
        obtain ⟨z, Hz⟩ : ∃ z, Hid (l.length = z) := ⟨_, Lib.hid rfl⟩
        rw [Hz.out] at hc2 hle2 hlb
        have Hr2 := Lib.hid hr2
        clear hr2
        rcases (by omega : t < 1 ∨ (1 ≤ t ∧ 10000 < t) ∨ (1 ≤ t ∧ t ≤ 10000 ∧ 400 < z) ∨ (1 ≤ t ∧ t ≤ 10000 ∧ z ≤ 400)) with t1 | ⟨t1, t2⟩ | ⟨t1, t2, t3⟩ | ⟨t1, t2, t3⟩
        · have HV : Hid (wrongE ts fs = 2) := Lib.hid (HBad.out (by simp [rowok]; omega))
          go_wp2_with fail
          go_ret
          exact ⟨ret_int HV.out.symm, rfl⟩
        · have HV : Hid (wrongE ts fs = 2) := Lib.hid (HBad.out (by simp [rowok]; omega))
          go_wp2_with fail
          go_ret
          exact ⟨ret_int HV.out.symm, rfl⟩
        · have HV : Hid (wrongE ts fs = 2) := Lib.hid (HBad.out (by have := Hz.out; simp [rowok]; omega))
          go_wp2_with fail
          go_ret
          exact ⟨ret_int HV.out.symm, rfl⟩
        · go_wp2_with fail
          go_loop [43] (fun i => ∃ j : Nat, j ≤ z ∧ i = .int .i64 j ∧ Hid ((l.take j).all nok = true)) (fun i => z - (intOf i).toNat)
          case atStart => exact ⟨0, by omega, rfl, Lib.hid rfl⟩
          case round =>
            obtain ⟨j, hj, rfl, Hj⟩ := hrel
            by_cases hjl : j < z
            · have h5 : j < l.length := by have := Hz.out; omega
              obtain ⟨b5, o5, rfl, hc5⟩ := Hr2.out.at_ h5
              have Ht := Lib.hid (all_take (p := nok) h5)
              have HB : Hid (nok l[j] = false → rowok t l = false) := Lib.hid fun h => by
                rw [rowok, List.all_eq_false.2 ⟨l[j], List.getElem_mem h5, by simp [h]⟩]
                simp
              generalize l[j] = x at hc5 Ht HB
              cases hx : nok x
              · have HV : Hid (wrongE ts fs = 2) := Lib.hid (HBad.out (HB.out hx))
                rcases nok_not hx with h6 | ⟨h6, h7⟩
                all_goals
                  clear hx
                  go_wp2_with fail
                  go_ret
                  exact ⟨ret_int HV.out.symm, rfl⟩
              · obtain ⟨x0, x1⟩ := nok_iff.1 hx
                have Hx := Lib.hid hx
                clear hx
                go_wp2_with fail
                go_round
                case rel => exact ⟨j + 1, by omega, by go_num, Lib.hid (by rw [Ht.out, Hj.out, Hx.out]; rfl)⟩
                case measure => first | (simp [intOf]; done) | (simp [intOf]; omega)
            · have Hrk : Hid (rowok t l = true) := Lib.hid (rowok_iff.2 ⟨⟨t1, t2⟩, by have := Hz.out; omega, by
                have := Hj.out
                rwa [List.take_of_length_le (by have := Hz.out; omega)] at this⟩)
              go_wp2_with fail
              go_round
              case rel => exact ⟨k + 1, by omega, by go_num, Lib.hid (Hnext.out Hrk.out)⟩
              case measure => first | (simp [intOf]; done) | (simp [intOf]; omega)
      · have HV : Hid (wrongE ts fs = 0) := Lib.hid (wrong_ok Hlen.out (by have := Hn.out; omega) fun j hj => Hall.out j hj (by have := Hlen.out; omega) (by have := Hn.out; omega))
        go_wp2_with fail
        go_ret
        exact ⟨ret_int HV.out.symm, rfl⟩
  · have HV : Hid (wrongE ts fs = 1) := Lib.hid (wrong_len (by omega))
    clear hr hn hR hm
    go_enter Tryz.func12, Tryz.ntmps12
    go_wp2_with fail
    go_ret
    exact ⟨ret_int HV.out.symm, rfl⟩

set_option maxRecDepth 100000 in
set_option maxHeartbeats 2000000 in
theorem turn_any (m : Int) (A : Option Addr) (n c : Nat) (l : List Int) (w : World) (hr : RdI .i64 w A l) (hn : l.length = n) (hc : n ≤ c) (hn2 : n ≤ 400) (hok : l.all nok = true) (hm0 : 0 ≤ m) (hm : m ≤ 1000000) :
    Calls Tryz.prog 21 #[(.int .i64 m), .slice A n c] w fun e w' => e = .returned (.tuple #[.slice A (gr m l).1 c, (.int .i64 (may m l))]) ∧ w = w' := by
  have Hn := Lib.hid hn
  have Hok := Lib.hid hok
  have Hr := Lib.hid hr
  clear hn hok hr
  go_enter Tryz.func21, Tryz.ntmps21
  go_wp2_with fail
  go_loop [0, 6] (fun r i => ∃ k : Nat, k ≤ n ∧ i = .int .i64 k ∧ ∃ r' : Int, r = .int .i64 r' ∧ 0 ≤ r' ∧ r' ≤ m ∧ Hid (r' = m - tot (l.take k)) ∧ Hid (∀ j, (h : j < k) → (hj : j < l.length) → l[j] ≤ m - tot (l.take j))) (fun _ i => n - (intOf i).toNat)
  case atStart => exact ⟨0, by omega, rfl, m, rfl, hm0, by omega, Lib.hid (by simp [tot]), Lib.hid fun j h => by omega⟩
  case round =>
    obtain ⟨k, hk, rfl, r, rfl, r0, r1, Hr', Hall⟩ := hrel
    by_cases hgo : ∃ h : k < l.length, l[k] ≤ r
    · obtain ⟨hl, hle⟩ := hgo
      have hlt : k < n := by have := Hn.out; omega
      obtain ⟨b, off, rfl, hc5⟩ := Hr.out.at_ hl
      obtain ⟨x0, x1⟩ := nok_iff.1 (List.all_eq_true.1 Hok.out _ (List.getElem_mem hl))
      have Ht := Lib.hid (tot_take hl)
      have Hnext : Hid (∀ j, (h : j < k + 1) → (hj : j < l.length) → l[j] ≤ m - tot (l.take j)) := Lib.hid fun j h hj => by
        rcases Nat.lt_or_ge j k with h5 | h5
        · exact Hall.out j h5 hj
        · obtain rfl : j = k := by omega
          rw [← Hr'.out]; exact hle
      generalize l[k] = x at hc5 x0 x1 Ht hle
      go_wp2_with fail
      go_round
      case rel => exact ⟨k + 1, by omega, by go_num, _, rfl, by omega, by omega, Lib.hid (by rw [Ht.out, Hr'.out]; omega), Hnext⟩
      case measure => first | (simp [intOf]; done) | (simp [intOf]; omega)
    · have Hgr : Hid (gr m l = (k, r)) := Lib.hid (by
        rw [Hr'.out]
        refine gr_at m l k (by have := Hn.out; omega) Hall.out ?_
        by_cases h5 : k = l.length
        · exact .inl h5
        · refine .inr ⟨by have := Hn.out; omega, ?_⟩
          have hkl : k < l.length := by have := Hn.out; omega
          by_cases h6 : l[k] ≤ r
          · exact absurd ⟨hkl, h6⟩ hgo
          · rw [← Hr'.out]; omega)
      rcases (by
        by_cases h : k < n
        · have hl : k < l.length := by have := Hn.out; omega
          refine .inl ⟨h, hl, ?_⟩
          by_cases h6 : l[k] ≤ r
          · exact absurd ⟨hl, h6⟩ hgo
          · omega
        · exact .inr (by omega) : (k < n ∧ ∃ hl : k < l.length, r < l[k]) ∨ k = n) with ⟨hlt, hl, hx⟩ | rfl
      · have Hmay : Hid (may m l = r) := Lib.hid (by rw [may, Hgr.out, if_neg (by simp only; omega)])
        obtain ⟨b, off, rfl, hc5⟩ := Hr.out.at_ hl
        generalize l[k] = x at hc5 hx
        clear hgo
        go_wp2_with ((with_reducible refine wpList_cutRH0 ?_); refine ⟨3, 1, n, c, k, _, .i64, Tryz.underlying22, by kernel_rfl, rfl, rfl, by omega, ?_⟩)
        go_ret2
        exact ⟨by rw [Hgr.out, Hmay.out]; rfl, rfl⟩
      · have Hmay : Hid (may m l = 0) := Lib.hid (by rw [may, Hgr.out, if_pos (by simp only; exact Hn.out.symm)])
        clear hgo
        go_wp2_with ((with_reducible refine wpList_cutRH0 ?_); refine ⟨3, 1, k, c, k, _, .i64, Tryz.underlying22, by kernel_rfl, rfl, rfl, by omega, ?_⟩)
        go_ret2
        exact ⟨by rw [Hgr.out, Hmay.out]; rfl, rfl⟩
end Go.Proofs.YtoibebmhfcjpfaaGreatDoor.Drr
