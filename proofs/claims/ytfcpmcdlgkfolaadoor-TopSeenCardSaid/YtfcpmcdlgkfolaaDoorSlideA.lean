/- Walks: slide.wrong, Sum; the reference's UWrong. -/
import Derived.Test.YtfcpmcdlgkfolaaDoorSlideM
import Derived.Test.YtfcpmcdlgkfolaaDoorMem
import Derived.Test.YtfcpmcdlgkfolaaDoorBigW
namespace Go.Proofs.YtfcpmcdlgkfolaaDoor.Slide
open Go.RowKit

theorem uok_not {x : Int} (h : uok x = false) : x < -1073741824 ∨ (-1073741824 ≤ x ∧ 1073741824 < x) := by simp [uok] at h; omega

theorem RdI.atn {k : IntKind} {w wr : World} {A : Option Addr} {zs : List Int} (hr : RdI k w A zs) (hb : Below w.heap.size w wr) {i : Nat} (hi : i < zs.length) :
    ∃ b off, A = some ⟨b, off, none⟩ ∧ b < wr.heap.size ∧ wr.cell? ⟨b, off + i, none⟩ = some (.int k zs[i]) := by
  obtain ⟨b, off, hA, hc⟩ := (hr.below hb).at_ hi
  exact ⟨b, off, hA, lt_of_cell hc, hc⟩

set_option maxHeartbeats 1000000 in
theorem wrong_any (wd : Int) (A : Option Addr) (n c : Nat) (l : List Int) (w : World) (hr : RdI .i64 w A l) (hn : l.length = n) (hm : n ≤ 140737488355328) :
    Calls Tryd.prog 53 #[(.int .i64 wd), .slice A n c] w fun e w' => e = .returned (.bool (bad wd l)) ∧ w = w' := by
  by_cases h1 : wd < 1
  · have HV : Hid (bad wd l = true) := Lib.hid (by simp [bad, h1])
    clear hr hn
    go_enter Tryd.func53, Tryd.ntmps53
    go_wp2_with fail
    go_ret
    exact ⟨ret_bool HV.out.symm, rfl⟩
  by_cases h2 : 400 < wd
  · have HV : Hid (bad wd l = true) := Lib.hid (by simp [bad, h2])
    clear hr hn
    go_enter Tryd.func53, Tryd.ntmps53
    go_wp2_with fail
    go_ret
    exact ⟨ret_bool HV.out.symm, rfl⟩
  by_cases h3 : 400 < n
  · have HV : Hid (bad wd l = true) := Lib.hid (by simp [bad, hn, h3])
    clear hr hn
    go_enter Tryd.func53, Tryd.ntmps53
    go_wp2_with fail
    go_ret
    exact ⟨ret_bool HV.out.symm, rfl⟩
  have HV : Hid (bad wd l = !l.all uok) := Lib.hid (by simp [bad, h1, h2, h3, hn])
  have Hn := Lib.hid hn
  clear hn
  go_enter Tryd.func53, Tryd.ntmps53
  go_wp2_with fail
  go_loop [20] (fun i => ∃ k : Nat, k ≤ n ∧ i = .int .i64 k ∧ ((l.take k).all uok = true)) (fun i => n - (intOf i).toNat)
  case atStart => exact ⟨0, by omega, rfl, rfl⟩
  case round =>
    obtain ⟨k, hk, rfl, hall⟩ := hrel
    by_cases hlt : k < n
    · have hl : k < l.length := by have := Hn.out; omega
      obtain ⟨b, off, rfl, hc⟩ := hr.at_ hl
      have Hall : Hid ((l.take (k + 1)).all uok = uok l[k]) := Lib.hid (by rw [List.take_succ_eq_append_getElem hl, List.all_append, hall]; simp)
      have hfalse : uok l[k] = false → l.all uok = false := fun h => List.all_eq_false.2 ⟨l[k], List.getElem_mem hl, by simp [h]⟩
      clear hall
      generalize l[k] = x at hc Hall hfalse
      cases hx : uok x
      · have Hfalse := Lib.hid (hfalse hx)
        clear hfalse
        rcases uok_not hx with h | ⟨h4, h5⟩
        all_goals
          clear hx Hall
          go_wp2_with fail
          go_ret
          exact ⟨ret_bool (by rw [HV.out, Hfalse.out]; rfl), rfl⟩
      · obtain ⟨x0, x1⟩ := uok_iff.1 hx
        clear hx hfalse
        go_wp2_with fail
        go_round
        case rel => exact ⟨k + 1, by omega, by go_num, by rw [Hall.out, uok_iff]; exact ⟨x0, x1⟩⟩
        case measure => first | (simp [intOf]; done) | (simp [intOf]; omega)
    · have Hf : Hid (l.all uok = true) := Lib.hid (by rwa [List.take_of_length_le (by have := Hn.out; omega)] at hall)
      clear hall
      go_wp2_with fail
      go_ret
      exact ⟨ret_bool (by rw [HV.out, Hf.out]; rfl), rfl⟩

end Go.Proofs.YtfcpmcdlgkfolaaDoor.Slide
