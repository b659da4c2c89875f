/- The walks of GCovers and of slices.Equal over rules. -/
import Derived.Test.YtlmnlffbbbcodaaRulesQ
import Derived.BigQuiet
import Derived.Deep.QuietTactic
import Derived.Test.YtlmnlffbbbcodaaReg
namespace Go.Proofs.Ytlmnlffbbbcodaa.Rules
open Go.RowKit Go.Proofs.Ytlmnlffbbbcodaa.Trie

set_option maxHeartbeats 4000000 in
theorem gcovers_any (a b : Rule) (ha : a.bytes) (hb : b.bytes) (hv : badR a = false) (w : World) :
    Calls Try.prog 24 #[.agg a.cells.toArray, .agg b.cells.toArray] w fun e w' => e = .returned (.bool (covB a b)) ∧ Below w.heap.size w w' := by
  obtain ⟨sa, sb, sc, sd, da, db, dc, dd, sbits, dbits, proto, low, high, cls⟩ := a
  obtain ⟨ta, tb, tc, td, ea, eb, ec, ed, tbits, ebits, qroto, qow, qigh, qcls⟩ := b
  obtain ⟨⟨r1, r2, r3, r4⟩, r5, r6, r7, r8⟩ := ha
  obtain ⟨⟨s1, s2, s3, s4⟩, s5, s6, s7, s8⟩ := hb
  simp only at r1 r2 r3 r4 r5 r6 r7 r8 s1 s2 s3 s4 s5 s6 s7 s8
  have hvv : (0 ≤ sbits ∧ sbits ≤ 32) ∧ 0 ≤ dbits ∧ dbits ≤ 32 := by
    simp [badR] at hv
    omega
  obtain ⟨⟨v1, v2⟩, v3, v4⟩ := hvv
  obtain ⟨m, rfl⟩ := Int.eq_ofNat_of_zero_le v1
  obtain ⟨n, rfl⟩ := Int.eq_ofNat_of_zero_le v3
  have hm : m ≤ 32 := by omega
  have hn : n ≤ 32 := by omega
  clear v1 v2 v3 v4 hv
  simp only [covB, Rule.cells]
  obtain ⟨b1, B1⟩ : ∃ b, Hid ((pre (n4 sa sb sc sd) m * 2 ^ (32 - m) == pre (n4 ta tb tc td) m * 2 ^ (32 - m)) = b) := ⟨_, Lib.hid rfl⟩
  obtain ⟨b2, B2⟩ : ∃ b, Hid ((pre (n4 da db dc dd) n * 2 ^ (32 - n) == pre (n4 ea eb ec ed) n * 2 ^ (32 - n)) = b) := ⟨_, Lib.hid rfl⟩
  rw [within_in _ _ m hm, within_in _ _ n hn, B1.out, B2.out]
  have HB : Hid (∀ W a b c d k, By a → By b → By c → By d → k ≤ 32 → Calls Try.prog 79 #[.agg #[.int .u8 a, .int .u8 b, .int .u8 c, .int .u8 d], .int .i64 (k : Nat)] W fun e w' => e = .returned (.int .i64 (pre (n4 a b c d) k * 2 ^ (32 - k))) ∧ Below W.heap.size W w') :=
    Lib.hid fun W a b c d k ha hb hc hd hk => fbits_any a b c d ha hb hc hd k hk W
  obtain ⟨f, Hf⟩ : ∃ f : Int → Int → Int → Int → Nat → Int, Hid (f = fun a b c d k => pre (n4 a b c d) k * 2 ^ (32 - k)) := ⟨_, Lib.hid rfl⟩
  have HB' : Hid (∀ W a b c d k, By a → By b → By c → By d → k ≤ 32 → Calls Try.prog 79 #[.agg #[.int .u8 a, .int .u8 b, .int .u8 c, .int .u8 d], .int .i64 (k : Nat)] W fun e w' => e = .returned (.int .i64 (f a b c d k)) ∧ Below W.heap.size W w') := by rw [Hf.out]; exact HB
  have e1 : (f sa sb sc sd m == f ta tb tc td m) = b1 := by rw [Hf.out]; exact B1.out
  have e2 : (f da db dc dd n == f ea eb ec ed n) = b2 := by rw [Hf.out]; exact B2.out
  clear B1 B2 HB Hf
  by_cases h1 : (m : Int) ≤ tbits
  rotate_left
  · have d1 : decide ((m : Int) ≤ tbits) = false := decide_eq_false h1
    go_enter Try.func24, Try.ntmps24
    go_wp2_with fail
    generalize hW : World.alloc (World.alloc w _) _ = W0
    have hb0 := named hW
    clear hW
    have c0_0 := fun o => Below.cell hb0 (p := ⟨w.heap.size, o, none⟩) (by first | omega | exact Below.size (by assumption) | (simp; done) | (simp; omega))
    have l0_0 : w.heap.size < W0.heap.size := Nat.lt_of_lt_of_le (by first | omega | exact Below.size (by assumption) | (simp; done) | (simp; omega)) (Below.size hb0)
    have c0_1 := fun o => Below.cell hb0 (p := ⟨w.heap.size + 1, o, none⟩) (by first | omega | exact Below.size (by assumption) | (simp; done) | (simp; omega))
    have l0_1 : w.heap.size + 1 < W0.heap.size := Nat.lt_of_lt_of_le (by first | omega | exact Below.size (by assumption) | (simp; done) | (simp; omega)) (Below.size hb0)
    have hB : Below w.heap.size w W0 := (by repeat (first | exact Below.refl _ _ | assumption | refine Below.drew ?_ | refine below_drewN ?_ _ | refine Below.alloc ?_ (by first | omega | exact Below.size (by assumption) | (simp; done) | (simp; omega)) _ | refine Below.setCell ?_ (by first | omega | exact Below.size (by assumption) | (simp; done) | (simp; omega)) _ | refine Below.trans ?_ (Below.mono (by assumption) (by first | omega | exact Below.size (by assumption) | (simp; done) | (simp; omega)))))
    have s0 : ∀ (i : Since W0) o, i.val.cell? ⟨w.heap.size, o, none⟩ = (#[.int .u8 sa, .int .u8 sb, .int .u8 sc, .int .u8 sd, .int .u8 da, .int .u8 db, .int .u8 dc, .int .u8 dd, .int .i64 m, .int .i64 n, .int .i64 proto, .int .i64 low, .int .i64 high, .int .i64 cls] : Array Value)[o]? := fun i o => (since_cell i l0_0 o).trans ((c0_0 o).trans (by simp [go_sem, *]))
    have s1 : ∀ (i : Since W0) o, i.val.cell? ⟨w.heap.size + 1, o, none⟩ = (#[.int .u8 ta, .int .u8 tb, .int .u8 tc, .int .u8 td, .int .u8 ea, .int .u8 eb, .int .u8 ec, .int .u8 ed, .int .i64 tbits, .int .i64 ebits, .int .i64 qroto, .int .i64 qow, .int .i64 qigh, .int .i64 qcls] : Array Value)[o]? := fun i o => (since_cell i l0_1 o).trans ((c0_1 o).trans (by simp [go_sem, *]))
    try dsimp only [List.append]
    refine wp_region_since W0 (Below.refl _ _) (by kernel_rfl) (by kernel_rfl) ?_
    repeat (go_big_quiet_step ((go_at_call 79; refine Calls.since (HB'.out _ _ _ _ _ _ ?_ ?_ ?_ ?_ ?_) <;> first | assumption | omega)))
    refine wpQuiet_nil ?_
    rintro _ ⟨⟨w7, hb7⟩, rfl⟩
    go_wp2_with fail
    go_ret
    exact ⟨ret_bool (by rw [Bool.eq_iff_iff]; simp [*] <;> omega), (by repeat (first | exact Below.refl _ _ | assumption | refine Below.drew ?_ | refine below_drewN ?_ _ | refine Below.alloc ?_ (by first | omega | exact Below.size (by assumption) | (simp; done) | (simp; omega)) _ | refine Below.setCell ?_ (by first | omega | exact Below.size (by assumption) | (simp; done) | (simp; omega)) _ | refine Below.trans ?_ (Below.mono (by assumption) (by first | omega | exact Below.size (by assumption) | (simp; done) | (simp; omega)))))⟩
  by_cases h2 : (n : Int) ≤ ebits
  rotate_left
  · have d2 : decide ((n : Int) ≤ ebits) = false := decide_eq_false h2
    go_enter Try.func24, Try.ntmps24
    go_wp2_with fail
    generalize hW : World.alloc (World.alloc w _) _ = W0
    have hb0 := named hW
    clear hW
    have c0_0 := fun o => Below.cell hb0 (p := ⟨w.heap.size, o, none⟩) (by first | omega | exact Below.size (by assumption) | (simp; done) | (simp; omega))
    have l0_0 : w.heap.size < W0.heap.size := Nat.lt_of_lt_of_le (by first | omega | exact Below.size (by assumption) | (simp; done) | (simp; omega)) (Below.size hb0)
    have c0_1 := fun o => Below.cell hb0 (p := ⟨w.heap.size + 1, o, none⟩) (by first | omega | exact Below.size (by assumption) | (simp; done) | (simp; omega))
    have l0_1 : w.heap.size + 1 < W0.heap.size := Nat.lt_of_lt_of_le (by first | omega | exact Below.size (by assumption) | (simp; done) | (simp; omega)) (Below.size hb0)
    have hB : Below w.heap.size w W0 := (by repeat (first | exact Below.refl _ _ | assumption | refine Below.drew ?_ | refine below_drewN ?_ _ | refine Below.alloc ?_ (by first | omega | exact Below.size (by assumption) | (simp; done) | (simp; omega)) _ | refine Below.setCell ?_ (by first | omega | exact Below.size (by assumption) | (simp; done) | (simp; omega)) _ | refine Below.trans ?_ (Below.mono (by assumption) (by first | omega | exact Below.size (by assumption) | (simp; done) | (simp; omega)))))
    have s0 : ∀ (i : Since W0) o, i.val.cell? ⟨w.heap.size, o, none⟩ = (#[.int .u8 sa, .int .u8 sb, .int .u8 sc, .int .u8 sd, .int .u8 da, .int .u8 db, .int .u8 dc, .int .u8 dd, .int .i64 m, .int .i64 n, .int .i64 proto, .int .i64 low, .int .i64 high, .int .i64 cls] : Array Value)[o]? := fun i o => (since_cell i l0_0 o).trans ((c0_0 o).trans (by simp [go_sem, *]))
    have s1 : ∀ (i : Since W0) o, i.val.cell? ⟨w.heap.size + 1, o, none⟩ = (#[.int .u8 ta, .int .u8 tb, .int .u8 tc, .int .u8 td, .int .u8 ea, .int .u8 eb, .int .u8 ec, .int .u8 ed, .int .i64 tbits, .int .i64 ebits, .int .i64 qroto, .int .i64 qow, .int .i64 qigh, .int .i64 qcls] : Array Value)[o]? := fun i o => (since_cell i l0_1 o).trans ((c0_1 o).trans (by simp [go_sem, *]))
    try dsimp only [List.append]
    refine wp_region_since W0 (Below.refl _ _) (by kernel_rfl) (by kernel_rfl) ?_
    repeat (go_big_quiet_step ((go_at_call 79; refine Calls.since (HB'.out _ _ _ _ _ _ ?_ ?_ ?_ ?_ ?_) <;> first | assumption | omega)))
    refine wpQuiet_nil ?_
    rintro _ ⟨⟨w7, hb7⟩, rfl⟩
    go_wp2_with fail
    go_ret
    exact ⟨ret_bool (by rw [Bool.eq_iff_iff]; simp [*] <;> omega), (by repeat (first | exact Below.refl _ _ | assumption | refine Below.drew ?_ | refine below_drewN ?_ _ | refine Below.alloc ?_ (by first | omega | exact Below.size (by assumption) | (simp; done) | (simp; omega)) _ | refine Below.setCell ?_ (by first | omega | exact Below.size (by assumption) | (simp; done) | (simp; omega)) _ | refine Below.trans ?_ (Below.mono (by assumption) (by first | omega | exact Below.size (by assumption) | (simp; done) | (simp; omega)))))⟩
  cases b1
  · go_enter Try.func24, Try.ntmps24
    go_wp2_with fail
    generalize hW : World.alloc (World.alloc w _) _ = W0
    have hb0 := named hW
    clear hW
    have c0_0 := fun o => Below.cell hb0 (p := ⟨w.heap.size, o, none⟩) (by first | omega | exact Below.size (by assumption) | (simp; done) | (simp; omega))
    have l0_0 : w.heap.size < W0.heap.size := Nat.lt_of_lt_of_le (by first | omega | exact Below.size (by assumption) | (simp; done) | (simp; omega)) (Below.size hb0)
    have c0_1 := fun o => Below.cell hb0 (p := ⟨w.heap.size + 1, o, none⟩) (by first | omega | exact Below.size (by assumption) | (simp; done) | (simp; omega))
    have l0_1 : w.heap.size + 1 < W0.heap.size := Nat.lt_of_lt_of_le (by first | omega | exact Below.size (by assumption) | (simp; done) | (simp; omega)) (Below.size hb0)
    have hB : Below w.heap.size w W0 := (by repeat (first | exact Below.refl _ _ | assumption | refine Below.drew ?_ | refine below_drewN ?_ _ | refine Below.alloc ?_ (by first | omega | exact Below.size (by assumption) | (simp; done) | (simp; omega)) _ | refine Below.setCell ?_ (by first | omega | exact Below.size (by assumption) | (simp; done) | (simp; omega)) _ | refine Below.trans ?_ (Below.mono (by assumption) (by first | omega | exact Below.size (by assumption) | (simp; done) | (simp; omega)))))
    have s0 : ∀ (i : Since W0) o, i.val.cell? ⟨w.heap.size, o, none⟩ = (#[.int .u8 sa, .int .u8 sb, .int .u8 sc, .int .u8 sd, .int .u8 da, .int .u8 db, .int .u8 dc, .int .u8 dd, .int .i64 m, .int .i64 n, .int .i64 proto, .int .i64 low, .int .i64 high, .int .i64 cls] : Array Value)[o]? := fun i o => (since_cell i l0_0 o).trans ((c0_0 o).trans (by simp [go_sem, *]))
    have s1 : ∀ (i : Since W0) o, i.val.cell? ⟨w.heap.size + 1, o, none⟩ = (#[.int .u8 ta, .int .u8 tb, .int .u8 tc, .int .u8 td, .int .u8 ea, .int .u8 eb, .int .u8 ec, .int .u8 ed, .int .i64 tbits, .int .i64 ebits, .int .i64 qroto, .int .i64 qow, .int .i64 qigh, .int .i64 qcls] : Array Value)[o]? := fun i o => (since_cell i l0_1 o).trans ((c0_1 o).trans (by simp [go_sem, *]))
    try dsimp only [List.append]
    refine wp_region_since W0 (Below.refl _ _) (by kernel_rfl) (by kernel_rfl) ?_
    repeat (go_big_quiet_step ((go_at_call 79; refine Calls.since (HB'.out _ _ _ _ _ _ ?_ ?_ ?_ ?_ ?_) <;> first | assumption | omega)))
    refine wpQuiet_nil ?_
    rintro _ ⟨⟨w7, hb7⟩, rfl⟩
    go_wp2_with fail
    go_ret
    exact ⟨ret_bool (by rw [Bool.eq_iff_iff]; simp [*] <;> omega), (by repeat (first | exact Below.refl _ _ | assumption | refine Below.drew ?_ | refine below_drewN ?_ _ | refine Below.alloc ?_ (by first | omega | exact Below.size (by assumption) | (simp; done) | (simp; omega)) _ | refine Below.setCell ?_ (by first | omega | exact Below.size (by assumption) | (simp; done) | (simp; omega)) _ | refine Below.trans ?_ (Below.mono (by assumption) (by first | omega | exact Below.size (by assumption) | (simp; done) | (simp; omega)))))⟩
  cases b2
  · go_enter Try.func24, Try.ntmps24
    go_wp2_with fail
    generalize hW : World.alloc (World.alloc w _) _ = W0
    have hb0 := named hW
    clear hW
    have c0_0 := fun o => Below.cell hb0 (p := ⟨w.heap.size, o, none⟩) (by first | omega | exact Below.size (by assumption) | (simp; done) | (simp; omega))
    have l0_0 : w.heap.size < W0.heap.size := Nat.lt_of_lt_of_le (by first | omega | exact Below.size (by assumption) | (simp; done) | (simp; omega)) (Below.size hb0)
    have c0_1 := fun o => Below.cell hb0 (p := ⟨w.heap.size + 1, o, none⟩) (by first | omega | exact Below.size (by assumption) | (simp; done) | (simp; omega))
    have l0_1 : w.heap.size + 1 < W0.heap.size := Nat.lt_of_lt_of_le (by first | omega | exact Below.size (by assumption) | (simp; done) | (simp; omega)) (Below.size hb0)
    have hB : Below w.heap.size w W0 := (by repeat (first | exact Below.refl _ _ | assumption | refine Below.drew ?_ | refine below_drewN ?_ _ | refine Below.alloc ?_ (by first | omega | exact Below.size (by assumption) | (simp; done) | (simp; omega)) _ | refine Below.setCell ?_ (by first | omega | exact Below.size (by assumption) | (simp; done) | (simp; omega)) _ | refine Below.trans ?_ (Below.mono (by assumption) (by first | omega | exact Below.size (by assumption) | (simp; done) | (simp; omega)))))
    have s0 : ∀ (i : Since W0) o, i.val.cell? ⟨w.heap.size, o, none⟩ = (#[.int .u8 sa, .int .u8 sb, .int .u8 sc, .int .u8 sd, .int .u8 da, .int .u8 db, .int .u8 dc, .int .u8 dd, .int .i64 m, .int .i64 n, .int .i64 proto, .int .i64 low, .int .i64 high, .int .i64 cls] : Array Value)[o]? := fun i o => (since_cell i l0_0 o).trans ((c0_0 o).trans (by simp [go_sem, *]))
    have s1 : ∀ (i : Since W0) o, i.val.cell? ⟨w.heap.size + 1, o, none⟩ = (#[.int .u8 ta, .int .u8 tb, .int .u8 tc, .int .u8 td, .int .u8 ea, .int .u8 eb, .int .u8 ec, .int .u8 ed, .int .i64 tbits, .int .i64 ebits, .int .i64 qroto, .int .i64 qow, .int .i64 qigh, .int .i64 qcls] : Array Value)[o]? := fun i o => (since_cell i l0_1 o).trans ((c0_1 o).trans (by simp [go_sem, *]))
    try dsimp only [List.append]
    refine wp_region_since W0 (Below.refl _ _) (by kernel_rfl) (by kernel_rfl) ?_
    repeat (go_big_quiet_step ((go_at_call 79; refine Calls.since (HB'.out _ _ _ _ _ _ ?_ ?_ ?_ ?_ ?_) <;> first | assumption | omega)))
    refine wpQuiet_nil ?_
    rintro _ ⟨⟨w7, hb7⟩, rfl⟩
    go_wp2_with fail
    go_ret
    exact ⟨ret_bool (by rw [Bool.eq_iff_iff]; simp [*] <;> omega), (by repeat (first | exact Below.refl _ _ | assumption | refine Below.drew ?_ | refine below_drewN ?_ _ | refine Below.alloc ?_ (by first | omega | exact Below.size (by assumption) | (simp; done) | (simp; omega)) _ | refine Below.setCell ?_ (by first | omega | exact Below.size (by assumption) | (simp; done) | (simp; omega)) _ | refine Below.trans ?_ (Below.mono (by assumption) (by first | omega | exact Below.size (by assumption) | (simp; done) | (simp; omega)))))⟩
  by_cases h3 : proto = qroto
  · have d3 : (proto == qroto) = true := by simpa using h3
    by_cases h4 : low ≤ qow
    · replace h3 := Lib.hid h3
      go_enter Try.func24, Try.ntmps24
      go_wp2_with fail
      generalize hW : World.alloc (World.alloc w _) _ = W0
      have hb0 := named hW
      clear hW
      have c0_0 := fun o => Below.cell hb0 (p := ⟨w.heap.size, o, none⟩) (by first | omega | exact Below.size (by assumption) | (simp; done) | (simp; omega))
      have l0_0 : w.heap.size < W0.heap.size := Nat.lt_of_lt_of_le (by first | omega | exact Below.size (by assumption) | (simp; done) | (simp; omega)) (Below.size hb0)
      have c0_1 := fun o => Below.cell hb0 (p := ⟨w.heap.size + 1, o, none⟩) (by first | omega | exact Below.size (by assumption) | (simp; done) | (simp; omega))
      have l0_1 : w.heap.size + 1 < W0.heap.size := Nat.lt_of_lt_of_le (by first | omega | exact Below.size (by assumption) | (simp; done) | (simp; omega)) (Below.size hb0)
      have hB : Below w.heap.size w W0 := (by repeat (first | exact Below.refl _ _ | assumption | refine Below.drew ?_ | refine below_drewN ?_ _ | refine Below.alloc ?_ (by first | omega | exact Below.size (by assumption) | (simp; done) | (simp; omega)) _ | refine Below.setCell ?_ (by first | omega | exact Below.size (by assumption) | (simp; done) | (simp; omega)) _ | refine Below.trans ?_ (Below.mono (by assumption) (by first | omega | exact Below.size (by assumption) | (simp; done) | (simp; omega)))))
      have s0 : ∀ (i : Since W0) o, i.val.cell? ⟨w.heap.size, o, none⟩ = (#[.int .u8 sa, .int .u8 sb, .int .u8 sc, .int .u8 sd, .int .u8 da, .int .u8 db, .int .u8 dc, .int .u8 dd, .int .i64 m, .int .i64 n, .int .i64 proto, .int .i64 low, .int .i64 high, .int .i64 cls] : Array Value)[o]? := fun i o => (since_cell i l0_0 o).trans ((c0_0 o).trans (by simp [go_sem, *]))
      have s1 : ∀ (i : Since W0) o, i.val.cell? ⟨w.heap.size + 1, o, none⟩ = (#[.int .u8 ta, .int .u8 tb, .int .u8 tc, .int .u8 td, .int .u8 ea, .int .u8 eb, .int .u8 ec, .int .u8 ed, .int .i64 tbits, .int .i64 ebits, .int .i64 qroto, .int .i64 qow, .int .i64 qigh, .int .i64 qcls] : Array Value)[o]? := fun i o => (since_cell i l0_1 o).trans ((c0_1 o).trans (by simp [go_sem, *]))
      try dsimp only [List.append]
      refine wp_region_since W0 (Below.refl _ _) (by kernel_rfl) (by kernel_rfl) ?_
      repeat (go_big_quiet_step ((go_at_call 79; refine Calls.since (HB'.out _ _ _ _ _ _ ?_ ?_ ?_ ?_ ?_) <;> first | assumption | omega)))
      refine wpQuiet_nil ?_
      rintro _ ⟨⟨w7, hb7⟩, rfl⟩
      go_wp2_with fail
      go_ret
      exact ⟨ret_bool (by rw [Bool.eq_iff_iff]; simp [*] <;> omega), (by repeat (first | exact Below.refl _ _ | assumption | refine Below.drew ?_ | refine below_drewN ?_ _ | refine Below.alloc ?_ (by first | omega | exact Below.size (by assumption) | (simp; done) | (simp; omega)) _ | refine Below.setCell ?_ (by first | omega | exact Below.size (by assumption) | (simp; done) | (simp; omega)) _ | refine Below.trans ?_ (Below.mono (by assumption) (by first | omega | exact Below.size (by assumption) | (simp; done) | (simp; omega)))))⟩
    · have d4 : decide (low ≤ qow) = false := decide_eq_false h4
      replace h3 := Lib.hid h3
      go_enter Try.func24, Try.ntmps24
      go_wp2_with fail
      generalize hW : World.alloc (World.alloc w _) _ = W0
      have hb0 := named hW
      clear hW
      have c0_0 := fun o => Below.cell hb0 (p := ⟨w.heap.size, o, none⟩) (by first | omega | exact Below.size (by assumption) | (simp; done) | (simp; omega))
      have l0_0 : w.heap.size < W0.heap.size := Nat.lt_of_lt_of_le (by first | omega | exact Below.size (by assumption) | (simp; done) | (simp; omega)) (Below.size hb0)
      have c0_1 := fun o => Below.cell hb0 (p := ⟨w.heap.size + 1, o, none⟩) (by first | omega | exact Below.size (by assumption) | (simp; done) | (simp; omega))
      have l0_1 : w.heap.size + 1 < W0.heap.size := Nat.lt_of_lt_of_le (by first | omega | exact Below.size (by assumption) | (simp; done) | (simp; omega)) (Below.size hb0)
      have hB : Below w.heap.size w W0 := (by repeat (first | exact Below.refl _ _ | assumption | refine Below.drew ?_ | refine below_drewN ?_ _ | refine Below.alloc ?_ (by first | omega | exact Below.size (by assumption) | (simp; done) | (simp; omega)) _ | refine Below.setCell ?_ (by first | omega | exact Below.size (by assumption) | (simp; done) | (simp; omega)) _ | refine Below.trans ?_ (Below.mono (by assumption) (by first | omega | exact Below.size (by assumption) | (simp; done) | (simp; omega)))))
      have s0 : ∀ (i : Since W0) o, i.val.cell? ⟨w.heap.size, o, none⟩ = (#[.int .u8 sa, .int .u8 sb, .int .u8 sc, .int .u8 sd, .int .u8 da, .int .u8 db, .int .u8 dc, .int .u8 dd, .int .i64 m, .int .i64 n, .int .i64 proto, .int .i64 low, .int .i64 high, .int .i64 cls] : Array Value)[o]? := fun i o => (since_cell i l0_0 o).trans ((c0_0 o).trans (by simp [go_sem, *]))
      have s1 : ∀ (i : Since W0) o, i.val.cell? ⟨w.heap.size + 1, o, none⟩ = (#[.int .u8 ta, .int .u8 tb, .int .u8 tc, .int .u8 td, .int .u8 ea, .int .u8 eb, .int .u8 ec, .int .u8 ed, .int .i64 tbits, .int .i64 ebits, .int .i64 qroto, .int .i64 qow, .int .i64 qigh, .int .i64 qcls] : Array Value)[o]? := fun i o => (since_cell i l0_1 o).trans ((c0_1 o).trans (by simp [go_sem, *]))
      try dsimp only [List.append]
      refine wp_region_since W0 (Below.refl _ _) (by kernel_rfl) (by kernel_rfl) ?_
      repeat (go_big_quiet_step ((go_at_call 79; refine Calls.since (HB'.out _ _ _ _ _ _ ?_ ?_ ?_ ?_ ?_) <;> first | assumption | omega)))
      refine wpQuiet_nil ?_
      rintro _ ⟨⟨w7, hb7⟩, rfl⟩
      go_wp2_with fail
      go_ret
      exact ⟨ret_bool (by rw [Bool.eq_iff_iff]; simp [*] <;> omega), (by repeat (first | exact Below.refl _ _ | assumption | refine Below.drew ?_ | refine below_drewN ?_ _ | refine Below.alloc ?_ (by first | omega | exact Below.size (by assumption) | (simp; done) | (simp; omega)) _ | refine Below.setCell ?_ (by first | omega | exact Below.size (by assumption) | (simp; done) | (simp; omega)) _ | refine Below.trans ?_ (Below.mono (by assumption) (by first | omega | exact Below.size (by assumption) | (simp; done) | (simp; omega)))))⟩
  · have d3 : (proto == qroto) = false := by simpa using h3
    by_cases h5 : proto = 0
    · have d5 : (proto == 0) = true := by simpa using h5
      by_cases h4 : low ≤ qow
      · replace h5 := Lib.hid h5
        go_enter Try.func24, Try.ntmps24
        go_wp2_with fail
        generalize hW : World.alloc (World.alloc w _) _ = W0
        have hb0 := named hW
        clear hW
        have c0_0 := fun o => Below.cell hb0 (p := ⟨w.heap.size, o, none⟩) (by first | omega | exact Below.size (by assumption) | (simp; done) | (simp; omega))
        have l0_0 : w.heap.size < W0.heap.size := Nat.lt_of_lt_of_le (by first | omega | exact Below.size (by assumption) | (simp; done) | (simp; omega)) (Below.size hb0)
        have c0_1 := fun o => Below.cell hb0 (p := ⟨w.heap.size + 1, o, none⟩) (by first | omega | exact Below.size (by assumption) | (simp; done) | (simp; omega))
        have l0_1 : w.heap.size + 1 < W0.heap.size := Nat.lt_of_lt_of_le (by first | omega | exact Below.size (by assumption) | (simp; done) | (simp; omega)) (Below.size hb0)
        have hB : Below w.heap.size w W0 := (by repeat (first | exact Below.refl _ _ | assumption | refine Below.drew ?_ | refine below_drewN ?_ _ | refine Below.alloc ?_ (by first | omega | exact Below.size (by assumption) | (simp; done) | (simp; omega)) _ | refine Below.setCell ?_ (by first | omega | exact Below.size (by assumption) | (simp; done) | (simp; omega)) _ | refine Below.trans ?_ (Below.mono (by assumption) (by first | omega | exact Below.size (by assumption) | (simp; done) | (simp; omega)))))
        have s0 : ∀ (i : Since W0) o, i.val.cell? ⟨w.heap.size, o, none⟩ = (#[.int .u8 sa, .int .u8 sb, .int .u8 sc, .int .u8 sd, .int .u8 da, .int .u8 db, .int .u8 dc, .int .u8 dd, .int .i64 m, .int .i64 n, .int .i64 proto, .int .i64 low, .int .i64 high, .int .i64 cls] : Array Value)[o]? := fun i o => (since_cell i l0_0 o).trans ((c0_0 o).trans (by simp [go_sem, *]))
        have s1 : ∀ (i : Since W0) o, i.val.cell? ⟨w.heap.size + 1, o, none⟩ = (#[.int .u8 ta, .int .u8 tb, .int .u8 tc, .int .u8 td, .int .u8 ea, .int .u8 eb, .int .u8 ec, .int .u8 ed, .int .i64 tbits, .int .i64 ebits, .int .i64 qroto, .int .i64 qow, .int .i64 qigh, .int .i64 qcls] : Array Value)[o]? := fun i o => (since_cell i l0_1 o).trans ((c0_1 o).trans (by simp [go_sem, *]))
        try dsimp only [List.append]
        refine wp_region_since W0 (Below.refl _ _) (by kernel_rfl) (by kernel_rfl) ?_
        repeat (go_big_quiet_step ((go_at_call 79; refine Calls.since (HB'.out _ _ _ _ _ _ ?_ ?_ ?_ ?_ ?_) <;> first | assumption | omega)))
        refine wpQuiet_nil ?_
        rintro _ ⟨⟨w7, hb7⟩, rfl⟩
        go_wp2_with fail
        go_ret
        exact ⟨ret_bool (by rw [Bool.eq_iff_iff]; simp [*] <;> omega), (by repeat (first | exact Below.refl _ _ | assumption | refine Below.drew ?_ | refine below_drewN ?_ _ | refine Below.alloc ?_ (by first | omega | exact Below.size (by assumption) | (simp; done) | (simp; omega)) _ | refine Below.setCell ?_ (by first | omega | exact Below.size (by assumption) | (simp; done) | (simp; omega)) _ | refine Below.trans ?_ (Below.mono (by assumption) (by first | omega | exact Below.size (by assumption) | (simp; done) | (simp; omega)))))⟩
      · have d4 : decide (low ≤ qow) = false := decide_eq_false h4
        replace h5 := Lib.hid h5
        go_enter Try.func24, Try.ntmps24
        go_wp2_with fail
        generalize hW : World.alloc (World.alloc w _) _ = W0
        have hb0 := named hW
        clear hW
        have c0_0 := fun o => Below.cell hb0 (p := ⟨w.heap.size, o, none⟩) (by first | omega | exact Below.size (by assumption) | (simp; done) | (simp; omega))
        have l0_0 : w.heap.size < W0.heap.size := Nat.lt_of_lt_of_le (by first | omega | exact Below.size (by assumption) | (simp; done) | (simp; omega)) (Below.size hb0)
        have c0_1 := fun o => Below.cell hb0 (p := ⟨w.heap.size + 1, o, none⟩) (by first | omega | exact Below.size (by assumption) | (simp; done) | (simp; omega))
        have l0_1 : w.heap.size + 1 < W0.heap.size := Nat.lt_of_lt_of_le (by first | omega | exact Below.size (by assumption) | (simp; done) | (simp; omega)) (Below.size hb0)
        have hB : Below w.heap.size w W0 := (by repeat (first | exact Below.refl _ _ | assumption | refine Below.drew ?_ | refine below_drewN ?_ _ | refine Below.alloc ?_ (by first | omega | exact Below.size (by assumption) | (simp; done) | (simp; omega)) _ | refine Below.setCell ?_ (by first | omega | exact Below.size (by assumption) | (simp; done) | (simp; omega)) _ | refine Below.trans ?_ (Below.mono (by assumption) (by first | omega | exact Below.size (by assumption) | (simp; done) | (simp; omega)))))
        have s0 : ∀ (i : Since W0) o, i.val.cell? ⟨w.heap.size, o, none⟩ = (#[.int .u8 sa, .int .u8 sb, .int .u8 sc, .int .u8 sd, .int .u8 da, .int .u8 db, .int .u8 dc, .int .u8 dd, .int .i64 m, .int .i64 n, .int .i64 proto, .int .i64 low, .int .i64 high, .int .i64 cls] : Array Value)[o]? := fun i o => (since_cell i l0_0 o).trans ((c0_0 o).trans (by simp [go_sem, *]))
        have s1 : ∀ (i : Since W0) o, i.val.cell? ⟨w.heap.size + 1, o, none⟩ = (#[.int .u8 ta, .int .u8 tb, .int .u8 tc, .int .u8 td, .int .u8 ea, .int .u8 eb, .int .u8 ec, .int .u8 ed, .int .i64 tbits, .int .i64 ebits, .int .i64 qroto, .int .i64 qow, .int .i64 qigh, .int .i64 qcls] : Array Value)[o]? := fun i o => (since_cell i l0_1 o).trans ((c0_1 o).trans (by simp [go_sem, *]))
        try dsimp only [List.append]
        refine wp_region_since W0 (Below.refl _ _) (by kernel_rfl) (by kernel_rfl) ?_
        repeat (go_big_quiet_step ((go_at_call 79; refine Calls.since (HB'.out _ _ _ _ _ _ ?_ ?_ ?_ ?_ ?_) <;> first | assumption | omega)))
        refine wpQuiet_nil ?_
        rintro _ ⟨⟨w7, hb7⟩, rfl⟩
        go_wp2_with fail
        go_ret
        exact ⟨ret_bool (by rw [Bool.eq_iff_iff]; simp [*] <;> omega), (by repeat (first | exact Below.refl _ _ | assumption | refine Below.drew ?_ | refine below_drewN ?_ _ | refine Below.alloc ?_ (by first | omega | exact Below.size (by assumption) | (simp; done) | (simp; omega)) _ | refine Below.setCell ?_ (by first | omega | exact Below.size (by assumption) | (simp; done) | (simp; omega)) _ | refine Below.trans ?_ (Below.mono (by assumption) (by first | omega | exact Below.size (by assumption) | (simp; done) | (simp; omega)))))⟩
    · have d5 : (proto == 0) = false := by simpa using h5
      go_enter Try.func24, Try.ntmps24
      go_wp2_with fail
      generalize hW : World.alloc (World.alloc w _) _ = W0
      have hb0 := named hW
      clear hW
      have c0_0 := fun o => Below.cell hb0 (p := ⟨w.heap.size, o, none⟩) (by first | omega | exact Below.size (by assumption) | (simp; done) | (simp; omega))
      have l0_0 : w.heap.size < W0.heap.size := Nat.lt_of_lt_of_le (by first | omega | exact Below.size (by assumption) | (simp; done) | (simp; omega)) (Below.size hb0)
      have c0_1 := fun o => Below.cell hb0 (p := ⟨w.heap.size + 1, o, none⟩) (by first | omega | exact Below.size (by assumption) | (simp; done) | (simp; omega))
      have l0_1 : w.heap.size + 1 < W0.heap.size := Nat.lt_of_lt_of_le (by first | omega | exact Below.size (by assumption) | (simp; done) | (simp; omega)) (Below.size hb0)
      have hB : Below w.heap.size w W0 := (by repeat (first | exact Below.refl _ _ | assumption | refine Below.drew ?_ | refine below_drewN ?_ _ | refine Below.alloc ?_ (by first | omega | exact Below.size (by assumption) | (simp; done) | (simp; omega)) _ | refine Below.setCell ?_ (by first | omega | exact Below.size (by assumption) | (simp; done) | (simp; omega)) _ | refine Below.trans ?_ (Below.mono (by assumption) (by first | omega | exact Below.size (by assumption) | (simp; done) | (simp; omega)))))
      have s0 : ∀ (i : Since W0) o, i.val.cell? ⟨w.heap.size, o, none⟩ = (#[.int .u8 sa, .int .u8 sb, .int .u8 sc, .int .u8 sd, .int .u8 da, .int .u8 db, .int .u8 dc, .int .u8 dd, .int .i64 m, .int .i64 n, .int .i64 proto, .int .i64 low, .int .i64 high, .int .i64 cls] : Array Value)[o]? := fun i o => (since_cell i l0_0 o).trans ((c0_0 o).trans (by simp [go_sem, *]))
      have s1 : ∀ (i : Since W0) o, i.val.cell? ⟨w.heap.size + 1, o, none⟩ = (#[.int .u8 ta, .int .u8 tb, .int .u8 tc, .int .u8 td, .int .u8 ea, .int .u8 eb, .int .u8 ec, .int .u8 ed, .int .i64 tbits, .int .i64 ebits, .int .i64 qroto, .int .i64 qow, .int .i64 qigh, .int .i64 qcls] : Array Value)[o]? := fun i o => (since_cell i l0_1 o).trans ((c0_1 o).trans (by simp [go_sem, *]))
      try dsimp only [List.append]
      refine wp_region_since W0 (Below.refl _ _) (by kernel_rfl) (by kernel_rfl) ?_
      repeat (go_big_quiet_step ((go_at_call 79; refine Calls.since (HB'.out _ _ _ _ _ _ ?_ ?_ ?_ ?_ ?_) <;> first | assumption | omega)))
      refine wpQuiet_nil ?_
      rintro _ ⟨⟨w7, hb7⟩, rfl⟩
      go_wp2_with fail
      go_ret
      exact ⟨ret_bool (by rw [Bool.eq_iff_iff]; simp [*] <;> omega), (by repeat (first | exact Below.refl _ _ | assumption | refine Below.drew ?_ | refine below_drewN ?_ _ | refine Below.alloc ?_ (by first | omega | exact Below.size (by assumption) | (simp; done) | (simp; omega)) _ | refine Below.setCell ?_ (by first | omega | exact Below.size (by assumption) | (simp; done) | (simp; omega)) _ | refine Below.trans ?_ (Below.mono (by assumption) (by first | omega | exact Below.size (by assumption) | (simp; done) | (simp; omega)))))⟩
end Go.Proofs.Ytlmnlffbbbcodaa.Rules
