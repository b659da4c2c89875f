/- slices.Equal over two slices of ints that read alike. -/
import Derived.Test.YtlmnlffbbbcodaaMem
import Derived.BigQuiet
import Derived.Deep.QuietTactic
namespace Go.Proofs.Ytlmnlffbbbcodaa
open Go.RowKit

set_option maxHeartbeats 1000000 in
theorem equal_ints (A B : Option Addr) (n c d : Nat) (zs : List Int) (w : World) (h1 : RdI .i64 w A zs) (h2 : RdI .i64 w B zs) (hn : zs.length = n) (hm : n ≤ 140737488355328) :
    Calls Try.prog 30 #[.slice A n c, .slice B n d] w fun e w' => e = .returned (.bool true) ∧ ∃ q, w' = w.drewN q := by
  have Hn := Lib.hid hn; clear hn
  go_enter Try.func30, Try.ntmps30
  go_wp2_with fail
  go_loopw [13] (fun i W => ∃ k : Nat, k ≤ n ∧ i = .int .i64 k ∧ ∃ q, W = w.drewN q) (fun i _ => n - (intOf i).toNat)
  case atStart => exact ⟨0, by omega, rfl, 0, rfl⟩
  case round =>
    obtain ⟨k, hk, rfl, q, rfl⟩ := hrel
    by_cases hlt : k < n
    · have hl : k < zs.length := by have := Hn.out; omega
      obtain ⟨b, off, rfl, hc⟩ := h1.at_ hl
      obtain ⟨b', off', rfl, hc'⟩ := h2.at_ hl
      go_wp2_with fail
      go_quiet (fail)
      go_wp2_with fail
      go_roundw
      case rel => exact ⟨k + 1, by omega, by go_num, _, rfl⟩
      case measure => first | (simp [intOf]; done) | (simp [intOf]; omega)
    · go_wp2_with fail
      go_ret
      exact ⟨rfl, _, rfl⟩
end Go.Proofs.Ytlmnlffbbbcodaa
