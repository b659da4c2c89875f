/- slices.Equal over two slices of rules that read alike. -/
import Derived.Test.YtlmnlffbbbcodaaRulesQ
import Derived.Test.YtlmnlffbbbcodaaEqArr
import Derived.BigQuiet
import Derived.Deep.QuietTactic
namespace Go.Proofs.Ytlmnlffbbbcodaa.Rules
open Go.RowKit Go.Proofs.Ytlmnlffbbbcodaa.Trie

set_option maxHeartbeats 4000000 in
theorem equal_rules (A B : Option Addr) (n c d : Nat) (l : List Rule) (w : World) (h1 : Rd w A (l.flatMap Rule.cells)) (h2 : Rd w B (l.flatMap Rule.cells)) (hn : l.length = n) (hm : n ≤ 140737488355328) :
    Calls Try.prog 25 #[.slice A n c, .slice B n d] w fun e w' => e = .returned (.bool true) ∧ ∃ q, w' = w.drewN q := by
  have Hn := Lib.hid hn; clear hn
  go_enter Try.func25, Try.ntmps25
  go_wp2_with fail
  go_loopw [13] (fun i W => ∃ k : Nat, k ≤ n ∧ i = .int .i64 k ∧ ∃ q, W = w.drewN q) (fun i _ => n - (intOf i).toNat)
  case atStart => exact ⟨0, by omega, rfl, 0, rfl⟩
  case round =>
    obtain ⟨k, hk, rfl, q, rfl⟩ := hrel
    by_cases hlt : k < n
    · have hl : k < l.length := by have := Hn.out; omega
      obtain ⟨b, off, rfl, hbl, hc⟩ := atR h1 (Below.refl _ _) hl
      obtain ⟨b', off', rfl, hbl', hd⟩ := atR h2 (Below.refl _ _) hl
      obtain ⟨r, Hr⟩ : ∃ r, Hid (l[k] = r) := ⟨_, Lib.hid rfl⟩
      rw [Hr.out] at hc hd
      obtain ⟨sa, sb, sc, sd, da, db, dc, dd, sbits, dbits, proto, low, high, cls⟩ := r
      have h0 := hc 0 _ rfl
      have h1 := hc 1 _ rfl
      have h2 := hc 2 _ rfl
      have h3 := hc 3 _ rfl
      have h4 := hc 4 _ rfl
      have h5 := hc 5 _ rfl
      have h6 := hc 6 _ rfl
      have h7 := hc 7 _ rfl
      have h8 := hc 8 _ rfl
      have h9 := hc 9 _ rfl
      have h10 := hc 10 _ rfl
      have h11 := hc 11 _ rfl
      have h12 := hc 12 _ rfl
      have h13 := hc 13 _ rfl
      have g0 := hd 0 _ rfl
      have g1 := hd 1 _ rfl
      have g2 := hd 2 _ rfl
      have g3 := hd 3 _ rfl
      have g4 := hd 4 _ rfl
      have g5 := hd 5 _ rfl
      have g6 := hd 6 _ rfl
      have g7 := hd 7 _ rfl
      have g8 := hd 8 _ rfl
      have g9 := hd 9 _ rfl
      have g10 := hd 10 _ rfl
      have g11 := hd 11 _ rfl
      have g12 := hd 12 _ rfl
      have g13 := hd 13 _ rfl
      simp only [Nat.add_zero] at h0 g0
      clear hc hd
      have hne : ∀ W : World, (binOp .neq 40 (.agg #[.int .u8 sa, .int .u8 sb, .int .u8 sc, .int .u8 sd, .int .u8 da, .int .u8 db, .int .u8 dc, .int .u8 dd, .int .i64 sbits, .int .i64 dbits, .int .i64 proto, .int .i64 low, .int .i64 high, .int .i64 cls]) (.agg #[.int .u8 sa, .int .u8 sb, .int .u8 sc, .int .u8 sd, .int .u8 da, .int .u8 db, .int .u8 dc, .int .u8 dd, .int .i64 sbits, .int .i64 dbits, .int .i64 proto, .int .i64 low, .int .i64 high, .int .i64 cls])).run Try.prog W = .ok (.bool false) W := fun W => by
        have ea := fun (a b c d : Int) (W : World) => eq_addr4 9997 a b c d a b c d W
        simp only [Nat.reduceAdd] at ea
        simp [go_sem, ea]
      go_wp2_with fail
      go_quiet (fail)
      go_wp2_with fail
      go_roundw
      case rel => exact ⟨k + 1, by omega, by go_num, _, rfl⟩
      case measure => first | (simp [intOf]; done) | (simp [intOf]; omega)
    · go_wp2_with fail
      go_ret
      exact ⟨rfl, _, rfl⟩
end Go.Proofs.Ytlmnlffbbbcodaa.Rules
