/- Walk: slices.Max over integers. -/
import Derived.Test.YtlmnlffbbbcodaaSlideA
namespace Go.Proofs.Ytlmnlffbbbcodaa.Slide
open Go.RowKit

set_option maxHeartbeats 1000000 in
theorem max_any (A : Option Addr) (n c : Nat) (l : List Int) (w : World) (hr : RdI .i64 w A l) (hn : l.length = n) (hm : n ≤ 140737488355328) (h0 : 0 < n) :
    Calls Try.prog 49 #[.slice A n c] w fun e w' => e = .returned (.int .i64 (mx l)) ∧ w = w' := by
  have Hn := Lib.hid hn
  have h00 : 0 < l.length := by omega
  obtain ⟨b0, off0, rfl, hc0⟩ := hr.at_ h00
  have hc0' : w.cell? ⟨b0, off0, none⟩ = some (.int .i64 (l[0])) := by simpa using hc0
  have Hx0 : Hid (mx (l.take 1) = l[0]) := Lib.hid (by
    cases l with
    | nil => simp at h00
    | cons x l => simp [mx])
  rw [← Hx0.out] at hc0'
  clear hc0 hn
  go_enter Try.func49, Try.ntmps49
  go_wp2_with fail
  go_loop [3, 4] (fun m i => ∃ k : Nat, 1 ≤ k ∧ k ≤ n ∧ i = .int .i64 k ∧ m = .int .i64 (mx (l.take k))) (fun _ i => n - (intOf i).toNat)
  case atStart => exact ⟨1, by omega, by omega, rfl, rfl⟩
  case round =>
    obtain ⟨k, hk1, hk, rfl, rfl⟩ := hrel
    by_cases hlt : k < n
    · have hl : k < l.length := by have := Hn.out; omega
      obtain ⟨b, off, hA, hc⟩ := hr.at_ hl
      injection hA with hA
      injection hA with hA1 hA2 hA3
      subst hA1 hA2
      have Ht := Lib.hid (mx_take hl hk1)
      generalize l[k] = x at hc Ht
      generalize mx (l.take k) = y at Ht ⊢
      go_wp2_with fail
      go_round
      case rel => exact ⟨k + 1, by omega, by omega, by go_num, by rw [Ht.out]; exact val_int (by split <;> omega)⟩
      case measure => first | (simp [intOf]; done) | (simp [intOf]; omega)
    · have Hf : Hid (mx l = mx (l.take k)) := Lib.hid (by rw [List.take_of_length_le (by have := Hn.out; omega)])
      go_wp2_with fail
      go_ret
      exact ⟨ret_int Hf.out.symm, rfl⟩
end Go.Proofs.Ytlmnlffbbbcodaa.Slide
