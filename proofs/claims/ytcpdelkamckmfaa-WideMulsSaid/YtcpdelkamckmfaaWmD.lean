/- Division of two words by one. -/
import Derived.Test.YtcpdelkamckmfaaWmA
import Derived.Test.YtcpdelkamckmfaaWmM
import Derived.Test.YtcpdelkamckmfaaWmN
import Derived.Test.YtcpdelkamckmfaaBitsL
namespace Go.Proofs.Ytcpdelkamckmfaa.Frac
open Go.RowKit Go.Proofs.Ytcpdelkamckmfaa.E Go.Proofs.Ytcpdelkamckmfaa.Big

theorem shl_u64 {a : Int} {s : Nat} (hs : s ≤ 64) : IntKind.u64.wrap (a * 2 ^ (min (s : Int).toNat IntKind.u64.bits)) = a * 2 ^ s % 18446744073709551616 := by
  rw [Int.toNat_natCast, show min s IntKind.u64.bits = s from Nat.min_eq_left hs, u64_wrap]
theorem shr_u64 {a : Int} {s : Nat} (hs : s ≤ 64) : a.fdiv (2 ^ (min (s : Int).toNat IntKind.u64.bits)) = a / 2 ^ s := by
  rw [Int.toNat_natCast, show min s IntKind.u64.bits = s from Nat.min_eq_left hs]
  exact Int.fdiv_eq_ediv_of_nonneg _ (by have := two_posN s; omega)
theorem dv_bd {A a : Int} (hA : 0 ≤ A) (ha : 0 < a) : 0 ≤ A / a ∧ A / a ≤ A ∧ 0 ≤ A / a * a ∧ A / a * a ≤ A ∧ A - A / a * a < a := by
  have h1 := Int.mul_ediv_add_emod A a
  have h2 := Int.emod_nonneg A (show a ≠ 0 by omega)
  have h3 := Int.emod_lt_of_pos A ha
  have h4 : 0 ≤ A / a := Int.ediv_nonneg hA (by omega)
  have h5 : 0 ≤ A / a * a := Int.mul_nonneg h4 (by omega)
  rw [Int.mul_comm] at h1
  exact ⟨h4, Int.ediv_le_self _ hA, h5, by omega, by omega⟩
theorem u64_orv {a b r : Int} (h : bits .or .u64 a b = r) {P : Program} (w : World) : (Op.intBits .or .u64 a b).run P w = .ok (.int .u64 r) w := by
  simp only [Op.intBits]
  first | (rw [← h]; rfl) | simp [bits] at h ⊢

set_option maxRecDepth 100000 in
set_option maxHeartbeats 400000 in
theorem lzE {y : Int} {s : Nat} (h0 : 0 < y) (h1 : y < 18446744073709551616) (hs : (s : Int) = 64 - (Lib.bitLen y.toNat : Int)) (w : World) :
    Calls Try.prog 171 #[.int .u64 y] w fun e w' => e = .returned ((.int .i64 ((s : Int)))) ∧ St w w' [] := by
  have hlt := norm_y h0 h1 hs
  refine calls_tr Try.func171 Try.ntmps171 rfl rfl (St.refl _) ?_
  refine tr_seq ?_
  refine tr_region ?_
  refine tl_step rfl (oj_val (y_assign fe_c) ?_)
  refine tl_nil ?_
  refine tx_then ?_
  refine tr_seq ?_
  refine tr_region ?_
  refine tl_step rfl (oj_val (y_move (fe_t rfl)) ?_)
  refine tl_step rfl (oj_callv Try.call110 fe_f (fel_cons (fe_t rfl) fel_nil) (fun w' hS => of_eq ((len64 y w' (by omega) (by omega)).mono fun _ _ ⟨h1, h2⟩ => ⟨h1, h2.symm⟩)) ?_)
  refine tl_step rfl (oj_val (y_as (b := (s : Int)) (y_sub fe_c (fe_t rfl) (by omega)) hs.symm) ?_)
  refine tl_step rfl (oj_val (y_assign (fe_t rfl)) ?_)
  refine tl_nil ?_
  refine tx_then ?_
  refine tr_ret ?_
  refine tx_ret (res1 Try.results171 (rok_t rfl)) (fun w' hS => ?_)
  exact ⟨rfl, hS.pick [] _ rfl (by decide)⟩

set_option maxRecDepth 100000 in
set_option maxHeartbeats 1000000 in
theorem div64_z {hi lo y : Int} (h0 : 0 ≤ hi) (h1 : hi < y) (y1 : y < 18446744073709551616) (l0 : 0 ≤ lo) (l1 : lo < 18446744073709551616) (hz : hi = 0) (w : World) :
    Calls Try.prog 131 #[.int .u64 hi, .int .u64 lo, .int .u64 y] w fun e w' => e = .returned (.tuple #[.int .u64 ((hi * 18446744073709551616 + lo) / y), .int .u64 ((hi * 18446744073709551616 + lo) % y)]) ∧ St w w' [] := by
  have hq0 : 0 ≤ lo / y := Int.ediv_nonneg l0 (by omega)
  have hq1 : lo / y ≤ lo := Int.ediv_le_self _ l0
  refine calls_tr Try.func131 Try.ntmps131 rfl rfl (St.refl _) ?_
  refine tr_seq ?_
  refine tr_region ?_
  refine tl_step rfl (oj_val (y_assign fe_c) ?_)
  refine tl_step rfl (oj_val (y_assign fe_c) ?_)
  refine tl_nil ?_
  refine tx_then ?_
  refine tr_seq ?_
  refine tr_seq ?_
  refine tr_region ?_
  refine tl_step rfl (oj_val (y_move (fe_t rfl)) ?_)
  refine tl_step rfl (oj_val (y_eq (fe_t rfl) fe_c) ?_)
  refine tl_nil ?_
  refine tx_then ?_
  refine tr_condp (fe_t rfl) (fun hq1 => ?_) (fun hq2 => ?_)
  · exfalso; omega
  · refine tr_skip ?_
    refine tx_then ?_
    refine tr_seq ?_
    refine tr_seq ?_
    refine tr_region ?_
    refine tl_step rfl (oj_val (y_move (fe_t rfl)) ?_)
    refine tl_step rfl (oj_val (y_move (fe_t rfl)) ?_)
    refine tl_step rfl (oj_val (y_leq (fe_t rfl) (fe_t rfl)) ?_)
    refine tl_nil ?_
    refine tx_then ?_
    refine tr_condp (fe_t rfl) (fun hq3 => ?_) (fun hq4 => ?_)
    · exfalso; omega
    · refine tr_skip ?_
      refine tx_then ?_
      refine tr_seq ?_
      refine tr_seq ?_
      refine tr_region ?_
      refine tl_step rfl (oj_val (y_move (fe_t rfl)) ?_)
      refine tl_step rfl (oj_val (y_eq (fe_t rfl) fe_c) ?_)
      refine tl_nil ?_
      refine tx_then ?_
      refine tr_condp (fe_t rfl) (fun hq5 => ?_) (fun hq6 => ?_)
      · refine tr_seq ?_
        refine tb_draw 8 (sel _ []) (fun w h => h.sel _ rfl (by decide)) rfl ?_
        refine tb_float (i := 0) rfl (by kernel_rfl) rfl (wants_none rfl) (yq_of (y_move (fe_t rfl))) ?_
        refine tb_float (i := 1) rfl (by kernel_rfl) rfl (wants_none rfl) (yq_of (y_move (fe_t rfl))) ?_
        refine tb_float (i := 2) rfl (by kernel_rfl) rfl (wants_none rfl) (yq_of (y_quok (fe_t rfl) (fe_t rfl) ⟨by omega, by omega⟩ (IntWalk.u64_in _ (by omega)))) ?_
        refine tb_float (i := 3) rfl (by kernel_rfl) rfl (wants_none rfl) (yq_of (y_move (fe_t rfl))) ?_
        refine tb_float (i := 4) rfl (by kernel_rfl) rfl (wants_none rfl) (yq_of (y_move (fe_t rfl))) ?_
        refine tb_float (i := 5) rfl (by kernel_rfl) rfl (wants_none rfl) (yq_of (y_rem (fe_t rfl) (fe_t rfl) (by omega))) ?_
        refine tb_float (i := 6) rfl (by kernel_rfl) rfl (wants_none rfl) (yq_of (y_assign (fe_t rfl))) ?_
        refine tb_float (i := 7) rfl (by kernel_rfl) rfl (wants_none rfl) (yq_of (y_assign (fe_t rfl))) ?_
        refine tb_done (by kernel_rfl) ?_
        refine tx_then ?_
        refine tr_ret ?_
        refine tx_then_ret ?_
        refine tx_ret (res2 Try.results131 (rok_t rfl) (rok_t rfl)) (fun w' hS => ?_)
        exact ⟨by rw [show hi * 18446744073709551616 + lo = lo by omega], hS.pick [] _ rfl (by decide)⟩
      · exfalso; omega

set_option maxRecDepth 100000 in
set_option maxHeartbeats 4000000 in
theorem div64_n {hi lo y : Int} (h0 : 0 ≤ hi) (h1 : hi < y) (y1 : y < 18446744073709551616) (l0 : 0 ≤ lo) (l1 : lo < 18446744073709551616) (hz : hi ≠ 0) (w : World) :
    Calls Try.prog 131 #[.int .u64 hi, .int .u64 lo, .int .u64 y] w fun e w' => e = .returned (.tuple #[.int .u64 ((hi * 18446744073709551616 + lo) / y), .int .u64 ((hi * 18446744073709551616 + lo) % y)]) ∧ St w w' [] := by
  obtain ⟨s, hs⟩ : ∃ s : Nat, (s : Int) = 64 - (Lib.bitLen y.toNat : Int) := ⟨(64 - (Lib.bitLen y.toNat : Int)).toNat, by have := (bitLen_lt (x := y.toNat) (by omega)).2; omega⟩
  obtain ⟨n0, n1, n2⟩ := norm_y (by omega) y1 hs
  obtain ⟨s1_, s2_, s3_, s4_, s5_, hN⟩ := shift_two n0 h0 h1 n2 l0 l1
  have p0 := two_posN s
  obtain ⟨Y, hY⟩ : ∃ Y, Y = y * 2 ^ s := ⟨_, rfl⟩
  obtain ⟨A, hA⟩ : ∃ A, A = hi * 2 ^ s + lo / 2 ^ (64 - s) := ⟨_, rfl⟩
  obtain ⟨U, hU⟩ : ∃ U, U = lo * 2 ^ s % 18446744073709551616 := ⟨_, rfl⟩
  rw [← hY] at n1 n2 s5_
  rw [← hA] at s5_
  rw [← hA, ← hU] at hN
  have hU2 : U = U / 4294967296 * 4294967296 + U % 4294967296 := by omega
  obtain ⟨q, r, e1, r0, r1, q0⟩ : ∃ q r : Int, A * 4294967296 + U / 4294967296 = q * Y + r ∧ 0 ≤ r ∧ r < Y ∧ 0 ≤ q := ⟨(A * 4294967296 + U / 4294967296) / Y, (A * 4294967296 + U / 4294967296) % Y, by rw [Int.mul_comm _ Y, Int.mul_ediv_add_emod], Int.emod_nonneg _ (by omega), Int.emod_lt_of_pos _ (by omega), Int.ediv_nonneg (by omega) (by omega)⟩
  obtain ⟨q', r', e2, s0, s1, q0'⟩ : ∃ q r' : Int, r * 4294967296 + U % 4294967296 = q * Y + r' ∧ 0 ≤ r' ∧ r' < Y ∧ 0 ≤ q := ⟨(r * 4294967296 + U % 4294967296) / Y, (r * 4294967296 + U % 4294967296) % Y, by rw [Int.mul_comm _ Y, Int.mul_ediv_add_emod], Int.emod_nonneg _ (by omega), Int.emod_lt_of_pos _ (by omega), Int.ediv_nonneg (by omega) (by omega)⟩
  have A0 : 0 ≤ A := by omega
  obtain ⟨dA1, dA2, dA3, dA4, dA5⟩ := dv_bd (a := Y / 4294967296) A0 (by omega)
  obtain ⟨dr1, dr2, dr3, dr4, dr5⟩ := dv_bd (a := Y / 4294967296) r0 (by omega)
  have ql1 := (gs_start e1 r0 r1 (show Y = Y / 4294967296 * 4294967296 + Y % 4294967296 by omega) (by omega) (by omega) (by omega) (by omega) (by omega) A0 (by omega) q0).lt
  have ql2 := (gs_start e2 s0 s1 (show Y = Y / 4294967296 * 4294967296 + Y % 4294967296 by omega) (by omega) (by omega) (by omega) (by omega) (by omega) r0 (by omega) q0').lt
  refine calls_tr Try.func131 Try.ntmps131 rfl rfl (St.refl _) ?_
  refine tr_seq ?_
  refine tr_region ?_
  refine tl_step rfl (oj_val (y_assign fe_c) ?_)
  refine tl_step rfl (oj_val (y_assign fe_c) ?_)
  refine tl_nil ?_
  refine tx_then ?_
  refine tr_seq ?_
  refine tr_seq ?_
  refine tr_region ?_
  refine tl_step rfl (oj_val (y_move (fe_t rfl)) ?_)
  refine tl_step rfl (oj_val (y_eq (fe_t rfl) fe_c) ?_)
  refine tl_nil ?_
  refine tx_then ?_
  refine tr_condp (fe_t rfl) (fun hq1 => ?_) (fun hq2 => ?_)
  · exfalso; omega
  · refine tr_skip ?_
    refine tx_then ?_
    refine tr_seq ?_
    refine tr_seq ?_
    refine tr_region ?_
    refine tl_step rfl (oj_val (y_move (fe_t rfl)) ?_)
    refine tl_step rfl (oj_val (y_move (fe_t rfl)) ?_)
    refine tl_step rfl (oj_val (y_leq (fe_t rfl) (fe_t rfl)) ?_)
    refine tl_nil ?_
    refine tx_then ?_
    refine tr_condp (fe_t rfl) (fun hq3 => ?_) (fun hq4 => ?_)
    · exfalso; omega
    · refine tr_skip ?_
      refine tx_then ?_
      refine tr_seq ?_
      refine tr_seq ?_
      refine tr_region ?_
      refine tl_step rfl (oj_val (y_move (fe_t rfl)) ?_)
      refine tl_step rfl (oj_val (y_eq (fe_t rfl) fe_c) ?_)
      refine tl_nil ?_
      refine tx_then ?_
      refine tr_condp (fe_t rfl) (fun hq5 => ?_) (fun hq6 => ?_)
      · exfalso; omega
      · refine tr_skip ?_
        refine tx_then ?_
        refine tr_seq ?_
        refine tr_region ?_
        refine tl_step rfl (oj_val (y_move (fe_t rfl)) ?_)
        refine tl_step rfl (oj_callv Try.call171 fe_f (fel_cons (fe_t rfl) fel_nil) (fun w' hS => lzE (by omega) y1 hs w') ?_)
        refine tl_step rfl (oj_val (y_convi Try.underlying3 Try.underlying152 (fe_t rfl) (IntWalk.u64_in _ (by omega))) ?_)
        refine tl_step rfl (oj_val (y_assign (fe_t rfl)) ?_)
        refine tl_nil ?_
        refine tx_then ?_
        refine tr_seq ?_
        refine tr_region ?_
        refine tl_step rfl (oj_val (y_move (fe_t rfl)) ?_)
        refine tl_step rfl (oj_val (y_move (fe_t rfl)) ?_)
        refine tl_step rfl (oj_val (y_as (b := Y) (y_shl (fe_t rfl) (fe_t rfl) (by omega)) (by rw [shl_u64 (by omega)]; omega)) ?_)
        refine tl_step rfl (oj_val (y_assign (fe_t rfl)) ?_)
        refine tl_nil ?_
        refine tx_then ?_
        refine tr_seq ?_
        refine tr_region ?_
        refine tl_step rfl (oj_val (y_move (fe_t rfl)) ?_)
        refine tl_step rfl (oj_val (y_as (y_shr (fe_t rfl) fe_c (by decide)) (shr32 (by omega))) ?_)
        refine tl_step rfl (oj_val (y_assign (fe_t rfl)) ?_)
        refine tl_nil ?_
        refine tx_then ?_
        refine tr_seq ?_
        refine tr_region ?_
        refine tl_step rfl (oj_val (y_move (fe_t rfl)) ?_)
        refine tl_step rfl (oj_val (y_bits (.inl rfl) (fe_t rfl) fe_c (fun w => u64_maskw _ (by omega) (by omega) w)) ?_)
        refine tl_step rfl (oj_val (y_assign (fe_t rfl)) ?_)
        refine tl_nil ?_
        refine tx_then ?_
        refine tr_seq ?_
        refine tr_region ?_
        refine tl_step rfl (oj_val (y_move (fe_t rfl)) ?_)
        refine tl_step rfl (oj_val (y_move (fe_t rfl)) ?_)
        refine tl_step rfl (oj_val (y_as (b := hi * 2 ^ s) (y_shl (fe_t rfl) (fe_t rfl) (by omega)) (by rw [shl_u64 (by omega)]; omega)) ?_)
        refine tl_step rfl (oj_val (y_move (fe_t rfl)) ?_)
        refine tl_step rfl (oj_val (y_move (fe_t rfl)) ?_)
        refine tl_step rfl (oj_val (y_as (b := ((64 - s : Nat) : Int)) (y_subk fe_c (fe_t rfl)) (by rw [u64_wrap]; omega)) ?_)
        refine tl_step rfl (oj_val (y_as (b := lo / 2 ^ (64 - s)) (y_shr (fe_t rfl) (fe_t rfl) (by omega)) (shr_u64 (by omega))) ?_)
        refine tl_step rfl (oj_val (y_as (b := A) (y_bits (.inr (.inl rfl)) (fe_t rfl) (fe_t rfl) (fun w => u64_orv (or64 (by omega) h0 (by omega) (by omega) (by omega)) w)) hA.symm) ?_)
        refine tl_step rfl (oj_val (y_assign (fe_t rfl)) ?_)
        refine tl_nil ?_
        refine tx_then ?_
        refine tr_seq ?_
        refine tr_region ?_
        refine tl_step rfl (oj_val (y_move (fe_t rfl)) ?_)
        refine tl_step rfl (oj_val (y_move (fe_t rfl)) ?_)
        refine tl_step rfl (oj_val (y_as (b := U) (y_shl (fe_t rfl) (fe_t rfl) (by omega)) (by rw [shl_u64 (by omega)]; exact hU.symm)) ?_)
        refine tl_step rfl (oj_val (y_assign (fe_t rfl)) ?_)
        refine tl_nil ?_
        refine tx_then ?_
        refine tr_seq ?_
        refine tr_region ?_
        refine tl_step rfl (oj_val (y_move (fe_t rfl)) ?_)
        refine tl_step rfl (oj_val (y_as (y_shr (fe_t rfl) fe_c (by decide)) (shr32 (by omega))) ?_)
        refine tl_step rfl (oj_val (y_assign (fe_t rfl)) ?_)
        refine tl_nil ?_
        refine tx_then ?_
        refine tr_seq ?_
        refine tr_region ?_
        refine tl_step rfl (oj_val (y_move (fe_t rfl)) ?_)
        refine tl_step rfl (oj_val (y_bits (.inl rfl) (fe_t rfl) fe_c (fun w => u64_maskw _ (by omega) (by omega) w)) ?_)
        refine tl_step rfl (oj_val (y_assign (fe_t rfl)) ?_)
        refine tl_nil ?_
        refine tx_then ?_
        refine tr_seq ?_
        refine tr_region ?_
        refine tl_step rfl (oj_val (y_move (fe_t rfl)) ?_)
        refine tl_step rfl (oj_val (y_move (fe_t rfl)) ?_)
        refine tl_step rfl (oj_val (y_quok (fe_t rfl) (fe_t rfl) ⟨by omega, by omega⟩ (IntWalk.u64_in _ (by omega))) ?_)
        refine tl_step rfl (oj_val (y_assign (fe_t rfl)) ?_)
        refine tl_nil ?_
        refine tx_then ?_
        refine tr_seq ?_
        refine tr_region ?_
        refine tl_step rfl (oj_val (y_move (fe_t rfl)) ?_)
        refine tl_step rfl (oj_val (y_move (fe_t rfl)) ?_)
        refine tl_step rfl (oj_val (y_move (fe_t rfl)) ?_)
        refine tl_step rfl (oj_val (y_as (y_mulk (fe_t rfl) (fe_t rfl)) (IntWalk.u64_in _ (by omega))) ?_)
        refine tl_step rfl (oj_val (y_as (y_subk (fe_t rfl) (fe_t rfl)) (IntWalk.u64_in _ (by omega))) ?_)
        refine tl_step rfl (oj_val (y_assign (fe_t rfl)) ?_)
        refine tl_nil ?_
        refine tx_then ?_
        refine tr_seq ?_
        refine tr_block ?_
        refine tr_loop2 [15, 16, 67, 68, 69, 70, 71, 72, 73, 74, 75, 76, 77, 78, 79, 80, 81, 82, 83, 84, 85] (fun (k1 : Int) (m1 : Int) => [(15, .int .u64 k1), (16, .int .u64 m1)]) 0 (fun (k1 : Int) (m1 : Int) => []) (fun (k1 : Int) (m1 : Int) => Gs A (U / 4294967296) Y (Y / 4294967296) (Y % 4294967296) q r k1 m1 ∧ m1 < 4294967296 ∧ k1 ≤ A / (Y / 4294967296)) (fun (k1 : Int) (m1 : Int) => k1.toNat) (A / (Y / 4294967296)) (A - A / (Y / 4294967296) * (Y / 4294967296)) (cov_cons (by first | rfl | exact v_int (by omega) | exact v_bool (by simp [*])) (cov_cons (by first | rfl | exact v_int (by omega) | exact v_bool (by simp [*])) (cov_nil))) (fun w h => h) ?_ ?_
        · try dsimp only
          exact ⟨gs_start e1 (by omega) (by omega) (by omega) (by omega) (by omega) (by omega) (by omega) (by omega) (by omega) (by omega) (by omega), by omega, by omega⟩
        intro k1 m1 hp
        obtain ⟨hg1, hm1, hu1⟩ := hp
        obtain ⟨kk1, hk1⟩ : ∃ x, x = k1 * (Y % 4294967296) := ⟨_, rfl⟩
        have hl1 := hg1.le
        have hh1 := hg1.h0
        refine tr_seq ?_
        refine tr_seq ?_
        refine tr_region ?_
        refine tl_step rfl (oj_val (y_move (fe_t rfl)) ?_)
        refine tl_step rfl (oj_val (y_geq (fe_t rfl) fe_c) ?_)
        refine tl_step rfl (oj_val (y_move (fe_t rfl)) ?_)
        refine tl_splitp (d := 69) rfl (fun hq7 => ?_) (fun hq8 => ?_)
        · refine tl_skip rfl rfl rfl rfl ?_
          refine tl_skip rfl rfl rfl rfl ?_
          refine tl_skip rfl rfl rfl rfl ?_
          refine tl_skip rfl rfl rfl rfl ?_
          refine tl_skip rfl rfl rfl rfl ?_
          refine tl_skip rfl rfl rfl rfl ?_
          refine tl_skip rfl rfl rfl rfl ?_
          refine tl_skip rfl rfl rfl rfl ?_
          refine tl_step rfl (oj_val (y_pickt (fe_t rfl) fe_c) ?_)
          refine tl_nil ?_
          refine tx_then ?_
          refine tr_condt (fe_t rfl) ?_
          refine tr_skip ?_
          refine tx_then ?_
          refine tr_block ?_
          refine tr_seq ?_
          have hx1 := hg1.next (by omega)
          have hx2 := hx1.1
          refine tr_region ?_
          refine tl_step rfl (oj_val (y_move (fe_t rfl)) ?_)
          refine tl_step rfl (oj_val (y_as (y_subk (fe_t rfl) fe_c) (IntWalk.u64_in _ (by omega))) ?_)
          refine tl_step rfl (oj_val (y_assign (fe_t rfl)) ?_)
          refine tl_nil ?_
          refine tx_then ?_
          refine tr_seq ?_
          refine tr_region ?_
          refine tl_step rfl (oj_val (y_move (fe_t rfl)) ?_)
          refine tl_step rfl (oj_val (y_move (fe_t rfl)) ?_)
          refine tl_step rfl (oj_val (y_as (y_addk (fe_t rfl) (fe_t rfl)) (IntWalk.u64_in _ (by omega))) ?_)
          refine tl_step rfl (oj_val (y_assign (fe_t rfl)) ?_)
          refine tl_nil ?_
          refine tx_then ?_
          refine tr_seq ?_
          refine tr_region ?_
          refine tl_step rfl (oj_val (y_move (fe_t rfl)) ?_)
          refine tl_step rfl (oj_val (y_geq (fe_t rfl) fe_c) ?_)
          refine tl_nil ?_
          refine tx_then ?_
          refine tr_condp (fe_t rfl) (fun hq9 => ?_) (fun hq10 => ?_)
          · refine tr_exit ?_
            refine tx_in_pass rfl ?_
            refine tx_then_exit ?_
            refine tx_in_exit ?_
            refine tx_then ?_
            refine tr_seq ?_
            have hqq : k1 - 1 = q := (hg1.next (by omega)).2.big (by omega)
            refine tr_region ?_
            refine tl_step rfl (oj_val (y_move (fe_t rfl)) ?_)
            refine tl_step rfl (oj_val (y_as (y_mulk (fe_t rfl) fe_c) (u64_wrap _)) ?_)
            refine tl_step rfl (oj_val (y_move (fe_t rfl)) ?_)
            refine tl_step rfl (oj_val (y_as (y_addk (fe_t rfl) (fe_t rfl)) (u64_wrap _)) ?_)
            refine tl_step rfl (oj_val (y_move (fe_t rfl)) ?_)
            refine tl_step rfl (oj_val (y_move (fe_t rfl)) ?_)
            refine tl_step rfl (oj_val (y_as (b := (q * Y % 18446744073709551616)) (y_mulk (fe_t rfl) (fe_t rfl)) (by rw [u64_wrap, hqq])) ?_)
            refine tl_step rfl (oj_val (y_as (b := r) (y_subk (fe_t rfl) (fe_t rfl)) (by rw [u64_wrap]; omega)) ?_)
            refine tl_step rfl (oj_val (y_assign (fe_t rfl)) ?_)
            refine tl_nil ?_
            refine tx_then ?_
            refine tr_seq ?_
            refine tr_region ?_
            refine tl_step rfl (oj_val (y_move (fe_t rfl)) ?_)
            refine tl_step rfl (oj_val (y_move (fe_t rfl)) ?_)
            refine tl_step rfl (oj_val (y_quok (fe_t rfl) (fe_t rfl) ⟨by omega, by omega⟩ (IntWalk.u64_in _ (by omega))) ?_)
            refine tl_step rfl (oj_val (y_assign (fe_t rfl)) ?_)
            refine tl_nil ?_
            refine tx_then ?_
            refine tr_seq ?_
            refine tr_region ?_
            refine tl_step rfl (oj_val (y_move (fe_t rfl)) ?_)
            refine tl_step rfl (oj_val (y_move (fe_t rfl)) ?_)
            refine tl_step rfl (oj_val (y_move (fe_t rfl)) ?_)
            refine tl_step rfl (oj_val (y_as (y_mulk (fe_t rfl) (fe_t rfl)) (IntWalk.u64_in _ (by omega))) ?_)
            refine tl_step rfl (oj_val (y_as (y_subk (fe_t rfl) (fe_t rfl)) (IntWalk.u64_in _ (by omega))) ?_)
            refine tl_step rfl (oj_val (y_assign (fe_t rfl)) ?_)
            refine tl_nil ?_
            refine tx_then ?_
            refine tr_seq ?_
            refine tr_block ?_
            refine tr_loop2 [16, 18, 102, 103, 104, 105, 106, 107, 108, 109, 110, 111, 112, 113, 114, 115, 116, 117, 118, 119, 120] (fun (k2 : Int) (m2 : Int) => [(18, .int .u64 k2), (16, .int .u64 m2)]) 0 (fun (k2 : Int) (m2 : Int) => []) (fun (k2 : Int) (m2 : Int) => Gs r (U % 4294967296) Y (Y / 4294967296) (Y % 4294967296) q' r' k2 m2 ∧ m2 < 4294967296 ∧ k2 ≤ r / (Y / 4294967296)) (fun (k2 : Int) (m2 : Int) => k2.toNat) (r / (Y / 4294967296)) (r - r / (Y / 4294967296) * (Y / 4294967296)) (cov_cons (by first | rfl | exact v_int (by omega) | exact v_bool (by simp [*])) (cov_cons (by first | rfl | exact v_int (by omega) | exact v_bool (by simp [*])) (cov_nil))) (fun w h => h) ?_ ?_
            · try dsimp only
              exact ⟨gs_start e2 (by omega) (by omega) (by omega) (by omega) (by omega) (by omega) (by omega) (by omega) (by omega) (by omega) (by omega), by omega, by omega⟩
            intro k2 m2 hp
            obtain ⟨hg2, hm2, hu2⟩ := hp
            obtain ⟨kk2, hk2⟩ : ∃ x, x = k2 * (Y % 4294967296) := ⟨_, rfl⟩
            have hl2 := hg2.le
            have hh2 := hg2.h0
            refine tr_seq ?_
            refine tr_seq ?_
            refine tr_region ?_
            refine tl_step rfl (oj_val (y_move (fe_t rfl)) ?_)
            refine tl_step rfl (oj_val (y_geq (fe_t rfl) fe_c) ?_)
            refine tl_step rfl (oj_val (y_move (fe_t rfl)) ?_)
            refine tl_splitp (d := 104) rfl (fun hq11 => ?_) (fun hq12 => ?_)
            · refine tl_skip rfl rfl rfl rfl ?_
              refine tl_skip rfl rfl rfl rfl ?_
              refine tl_skip rfl rfl rfl rfl ?_
              refine tl_skip rfl rfl rfl rfl ?_
              refine tl_skip rfl rfl rfl rfl ?_
              refine tl_skip rfl rfl rfl rfl ?_
              refine tl_skip rfl rfl rfl rfl ?_
              refine tl_skip rfl rfl rfl rfl ?_
              refine tl_step rfl (oj_val (y_pickt (fe_t rfl) fe_c) ?_)
              refine tl_nil ?_
              refine tx_then ?_
              refine tr_condt (fe_t rfl) ?_
              refine tr_skip ?_
              refine tx_then ?_
              refine tr_block ?_
              refine tr_seq ?_
              have hy1 := hg2.next (by omega)
              have hy2 := hy1.1
              refine tr_region ?_
              refine tl_step rfl (oj_val (y_move (fe_t rfl)) ?_)
              refine tl_step rfl (oj_val (y_as (y_subk (fe_t rfl) fe_c) (IntWalk.u64_in _ (by omega))) ?_)
              refine tl_step rfl (oj_val (y_assign (fe_t rfl)) ?_)
              refine tl_nil ?_
              refine tx_then ?_
              refine tr_seq ?_
              refine tr_region ?_
              refine tl_step rfl (oj_val (y_move (fe_t rfl)) ?_)
              refine tl_step rfl (oj_val (y_move (fe_t rfl)) ?_)
              refine tl_step rfl (oj_val (y_as (y_addk (fe_t rfl) (fe_t rfl)) (IntWalk.u64_in _ (by omega))) ?_)
              refine tl_step rfl (oj_val (y_assign (fe_t rfl)) ?_)
              refine tl_nil ?_
              refine tx_then ?_
              refine tr_seq ?_
              refine tr_region ?_
              refine tl_step rfl (oj_val (y_move (fe_t rfl)) ?_)
              refine tl_step rfl (oj_val (y_geq (fe_t rfl) fe_c) ?_)
              refine tl_nil ?_
              refine tx_then ?_
              refine tr_condp (fe_t rfl) (fun hq13 => ?_) (fun hq14 => ?_)
              · refine tr_exit ?_
                refine tx_in_pass rfl ?_
                refine tx_then_exit ?_
                refine tx_in_exit ?_
                refine tx_then ?_
                refine tr_seq ?_
                have hqq2 : k2 - 1 = q' := (hg2.next (by omega)).2.big (by omega)
                obtain ⟨hd1, hd2⟩ := div_end (N := hi * 18446744073709551616 + lo) (y := y) p0 (by omega) hY hN hU2 e1 e2 s0 s1
                refine tr_region ?_
                refine tl_step rfl (oj_val (y_move (fe_t rfl)) ?_)
                refine tl_step rfl (oj_val (y_as (b := (q * 4294967296)) (y_mulk (fe_t rfl) fe_c) (by rw [hqq]; exact IntWalk.u64_in _ (by omega))) ?_)
                refine tl_step rfl (oj_val (y_move (fe_t rfl)) ?_)
                refine tl_step rfl (oj_val (y_as (b := (q * 4294967296 + q')) (y_addk (fe_t rfl) (fe_t rfl)) (by rw [hqq2]; exact IntWalk.u64_in _ (by omega))) ?_)
                refine tl_step rfl (oj_val (y_move (fe_t rfl)) ?_)
                refine tl_step rfl (oj_val (y_as (y_mulk (fe_t rfl) fe_c) (u64_wrap _)) ?_)
                refine tl_step rfl (oj_val (y_move (fe_t rfl)) ?_)
                refine tl_step rfl (oj_val (y_as (y_addk (fe_t rfl) (fe_t rfl)) (u64_wrap _)) ?_)
                refine tl_step rfl (oj_val (y_move (fe_t rfl)) ?_)
                refine tl_step rfl (oj_val (y_move (fe_t rfl)) ?_)
                refine tl_step rfl (oj_val (y_as (b := (q' * Y % 18446744073709551616)) (y_mulk (fe_t rfl) (fe_t rfl)) (by rw [u64_wrap, hqq2])) ?_)
                refine tl_step rfl (oj_val (y_as (b := r') (y_subk (fe_t rfl) (fe_t rfl)) (by rw [u64_wrap]; omega)) ?_)
                refine tl_step rfl (oj_val (y_move (fe_t rfl)) ?_)
                refine tl_step rfl (oj_val (y_as (b := (r' / 2 ^ s)) (y_shr (fe_t rfl) (fe_t rfl) (by omega)) (shr_u64 (by omega))) ?_)
                refine tl_step rfl (oj_val (y_assign (fe_t rfl)) ?_)
                refine tl_step rfl (oj_val (y_assign (fe_t rfl)) ?_)
                refine tl_nil ?_
                refine tx_then ?_
                refine tr_ret ?_
                refine tx_ret (res2 Try.results131 (rok_t rfl) (rok_t rfl)) (fun w' hS => ?_)
                exact ⟨by rw [hd1, hd2], hS.pick [] _ rfl (by decide)⟩
              · refine tr_skip ?_
                refine tx_in ?_
                apply tx_back2 (k2 - 1) (m2 + (Y / 4294967296))
                · exact (cov_cons (by first | rfl | exact v_int (by omega) | exact v_bool (by simp [*])) (cov_cons (by first | rfl | exact v_int (by omega) | exact v_bool (by simp [*])) (cov_nil)))
                · repeat (first | exact over_nil | refine over_put rfl ?_ | refine over_drop rfl ?_)
                · exact fun w h => h.pick [] _ rfl (by decide)
                · have hnx := hg2.next (by omega)
                  exact ⟨⟨hnx.2, by omega, by omega⟩, by omega⟩
            · refine tl_want rfl rfl rfl (oj_val (y_move (fe_t rfl)) ?_)
              refine tl_want rfl rfl rfl (oj_val (y_move (fe_t rfl)) ?_)
              refine tl_want rfl rfl rfl (oj_val (y_as (y_mulk (fe_t rfl) (fe_t rfl)) (IntWalk.u64_in _ (by have := (dprod (a := k2) (b := Y % 4294967296) (by omega) (by omega)); omega))) ?_)
              refine tl_want rfl rfl rfl (oj_val (y_move (fe_t rfl)) ?_)
              refine tl_want rfl rfl rfl (oj_val (y_as (y_mulk fe_c (fe_t rfl)) (IntWalk.u64_in _ (by omega))) ?_)
              refine tl_want rfl rfl rfl (oj_val (y_move (fe_t rfl)) ?_)
              refine tl_want rfl rfl rfl (oj_val (y_as (y_addk (fe_t rfl) (fe_t rfl)) (IntWalk.u64_in _ (by omega))) ?_)
              refine tl_want rfl rfl rfl (oj_val (y_gtr (fe_t rfl) (fe_t rfl)) ?_)
              refine tl_step rfl (oj_val (y_pickf (fe_t rfl) (fe_t rfl)) ?_)
              refine tl_nil ?_
              refine tx_then ?_
              refine tr_condp (fe_t rfl) (fun hq15 => ?_) (fun hq16 => ?_)
              · refine tr_skip ?_
                refine tx_then ?_
                refine tr_block ?_
                refine tr_seq ?_
                have hy1 := hg2.next (by omega)
                have hy2 := hy1.1
                refine tr_region ?_
                refine tl_step rfl (oj_val (y_move (fe_t rfl)) ?_)
                refine tl_step rfl (oj_val (y_as (y_subk (fe_t rfl) fe_c) (IntWalk.u64_in _ (by omega))) ?_)
                refine tl_step rfl (oj_val (y_assign (fe_t rfl)) ?_)
                refine tl_nil ?_
                refine tx_then ?_
                refine tr_seq ?_
                refine tr_region ?_
                refine tl_step rfl (oj_val (y_move (fe_t rfl)) ?_)
                refine tl_step rfl (oj_val (y_move (fe_t rfl)) ?_)
                refine tl_step rfl (oj_val (y_as (y_addk (fe_t rfl) (fe_t rfl)) (IntWalk.u64_in _ (by omega))) ?_)
                refine tl_step rfl (oj_val (y_assign (fe_t rfl)) ?_)
                refine tl_nil ?_
                refine tx_then ?_
                refine tr_seq ?_
                refine tr_region ?_
                refine tl_step rfl (oj_val (y_move (fe_t rfl)) ?_)
                refine tl_step rfl (oj_val (y_geq (fe_t rfl) fe_c) ?_)
                refine tl_nil ?_
                refine tx_then ?_
                refine tr_condp (fe_t rfl) (fun hq17 => ?_) (fun hq18 => ?_)
                · refine tr_exit ?_
                  refine tx_in_pass rfl ?_
                  refine tx_then_exit ?_
                  refine tx_in_exit ?_
                  refine tx_then ?_
                  refine tr_seq ?_
                  have hqq2 : k2 - 1 = q' := (hg2.next (by omega)).2.big (by omega)
                  obtain ⟨hd1, hd2⟩ := div_end (N := hi * 18446744073709551616 + lo) (y := y) p0 (by omega) hY hN hU2 e1 e2 s0 s1
                  refine tr_region ?_
                  refine tl_step rfl (oj_val (y_move (fe_t rfl)) ?_)
                  refine tl_step rfl (oj_val (y_as (b := (q * 4294967296)) (y_mulk (fe_t rfl) fe_c) (by rw [hqq]; exact IntWalk.u64_in _ (by omega))) ?_)
                  refine tl_step rfl (oj_val (y_move (fe_t rfl)) ?_)
                  refine tl_step rfl (oj_val (y_as (b := (q * 4294967296 + q')) (y_addk (fe_t rfl) (fe_t rfl)) (by rw [hqq2]; exact IntWalk.u64_in _ (by omega))) ?_)
                  refine tl_step rfl (oj_val (y_move (fe_t rfl)) ?_)
                  refine tl_step rfl (oj_val (y_as (y_mulk (fe_t rfl) fe_c) (u64_wrap _)) ?_)
                  refine tl_step rfl (oj_val (y_move (fe_t rfl)) ?_)
                  refine tl_step rfl (oj_val (y_as (y_addk (fe_t rfl) (fe_t rfl)) (u64_wrap _)) ?_)
                  refine tl_step rfl (oj_val (y_move (fe_t rfl)) ?_)
                  refine tl_step rfl (oj_val (y_move (fe_t rfl)) ?_)
                  refine tl_step rfl (oj_val (y_as (b := (q' * Y % 18446744073709551616)) (y_mulk (fe_t rfl) (fe_t rfl)) (by rw [u64_wrap, hqq2])) ?_)
                  refine tl_step rfl (oj_val (y_as (b := r') (y_subk (fe_t rfl) (fe_t rfl)) (by rw [u64_wrap]; omega)) ?_)
                  refine tl_step rfl (oj_val (y_move (fe_t rfl)) ?_)
                  refine tl_step rfl (oj_val (y_as (b := (r' / 2 ^ s)) (y_shr (fe_t rfl) (fe_t rfl) (by omega)) (shr_u64 (by omega))) ?_)
                  refine tl_step rfl (oj_val (y_assign (fe_t rfl)) ?_)
                  refine tl_step rfl (oj_val (y_assign (fe_t rfl)) ?_)
                  refine tl_nil ?_
                  refine tx_then ?_
                  refine tr_ret ?_
                  refine tx_ret (res2 Try.results131 (rok_t rfl) (rok_t rfl)) (fun w' hS => ?_)
                  exact ⟨by rw [hd1, hd2], hS.pick [] _ rfl (by decide)⟩
                · refine tr_skip ?_
                  refine tx_in ?_
                  apply tx_back2 (k2 - 1) (m2 + (Y / 4294967296))
                  · exact (cov_cons (by first | rfl | exact v_int (by omega) | exact v_bool (by simp [*])) (cov_cons (by first | rfl | exact v_int (by omega) | exact v_bool (by simp [*])) (cov_nil)))
                  · repeat (first | exact over_nil | refine over_put rfl ?_ | refine over_drop rfl ?_)
                  · exact fun w h => h.pick [] _ rfl (by decide)
                  · have hnx := hg2.next (by omega)
                    exact ⟨⟨hnx.2, by omega, by omega⟩, by omega⟩
              · refine tr_exit ?_
                refine tx_then_exit ?_
                refine tx_then_exit ?_
                refine tx_in_exit ?_
                refine tx_then ?_
                refine tr_seq ?_
                have hqq2 : k2 = q' := hg2.done (by omega)
                obtain ⟨hd1, hd2⟩ := div_end (N := hi * 18446744073709551616 + lo) (y := y) p0 (by omega) hY hN hU2 e1 e2 s0 s1
                refine tr_region ?_
                refine tl_step rfl (oj_val (y_move (fe_t rfl)) ?_)
                refine tl_step rfl (oj_val (y_as (b := (q * 4294967296)) (y_mulk (fe_t rfl) fe_c) (by rw [hqq]; exact IntWalk.u64_in _ (by omega))) ?_)
                refine tl_step rfl (oj_val (y_move (fe_t rfl)) ?_)
                refine tl_step rfl (oj_val (y_as (b := (q * 4294967296 + q')) (y_addk (fe_t rfl) (fe_t rfl)) (by rw [hqq2]; exact IntWalk.u64_in _ (by omega))) ?_)
                refine tl_step rfl (oj_val (y_move (fe_t rfl)) ?_)
                refine tl_step rfl (oj_val (y_as (y_mulk (fe_t rfl) fe_c) (u64_wrap _)) ?_)
                refine tl_step rfl (oj_val (y_move (fe_t rfl)) ?_)
                refine tl_step rfl (oj_val (y_as (y_addk (fe_t rfl) (fe_t rfl)) (u64_wrap _)) ?_)
                refine tl_step rfl (oj_val (y_move (fe_t rfl)) ?_)
                refine tl_step rfl (oj_val (y_move (fe_t rfl)) ?_)
                refine tl_step rfl (oj_val (y_as (b := (q' * Y % 18446744073709551616)) (y_mulk (fe_t rfl) (fe_t rfl)) (by rw [u64_wrap, hqq2])) ?_)
                refine tl_step rfl (oj_val (y_as (b := r') (y_subk (fe_t rfl) (fe_t rfl)) (by rw [u64_wrap]; omega)) ?_)
                refine tl_step rfl (oj_val (y_move (fe_t rfl)) ?_)
                refine tl_step rfl (oj_val (y_as (b := (r' / 2 ^ s)) (y_shr (fe_t rfl) (fe_t rfl) (by omega)) (shr_u64 (by omega))) ?_)
                refine tl_step rfl (oj_val (y_assign (fe_t rfl)) ?_)
                refine tl_step rfl (oj_val (y_assign (fe_t rfl)) ?_)
                refine tl_nil ?_
                refine tx_then ?_
                refine tr_ret ?_
                refine tx_ret (res2 Try.results131 (rok_t rfl) (rok_t rfl)) (fun w' hS => ?_)
                exact ⟨by rw [hd1, hd2], hS.pick [] _ rfl (by decide)⟩
          · refine tr_skip ?_
            refine tx_in ?_
            apply tx_back2 (k1 - 1) (m1 + (Y / 4294967296))
            · exact (cov_cons (by first | rfl | exact v_int (by omega) | exact v_bool (by simp [*])) (cov_cons (by first | rfl | exact v_int (by omega) | exact v_bool (by simp [*])) (cov_nil)))
            · repeat (first | exact over_nil | refine over_put rfl ?_ | refine over_drop rfl ?_)
            · exact fun w h => h.pick [] _ rfl (by decide)
            · have hnx := hg1.next (by omega)
              exact ⟨⟨hnx.2, by omega, by omega⟩, by omega⟩
        · refine tl_want rfl rfl rfl (oj_val (y_move (fe_t rfl)) ?_)
          refine tl_want rfl rfl rfl (oj_val (y_move (fe_t rfl)) ?_)
          refine tl_want rfl rfl rfl (oj_val (y_as (y_mulk (fe_t rfl) (fe_t rfl)) (IntWalk.u64_in _ (by have := (dprod (a := k1) (b := Y % 4294967296) (by omega) (by omega)); omega))) ?_)
          refine tl_want rfl rfl rfl (oj_val (y_move (fe_t rfl)) ?_)
          refine tl_want rfl rfl rfl (oj_val (y_as (y_mulk fe_c (fe_t rfl)) (IntWalk.u64_in _ (by omega))) ?_)
          refine tl_want rfl rfl rfl (oj_val (y_move (fe_t rfl)) ?_)
          refine tl_want rfl rfl rfl (oj_val (y_as (y_addk (fe_t rfl) (fe_t rfl)) (IntWalk.u64_in _ (by omega))) ?_)
          refine tl_want rfl rfl rfl (oj_val (y_gtr (fe_t rfl) (fe_t rfl)) ?_)
          refine tl_step rfl (oj_val (y_pickf (fe_t rfl) (fe_t rfl)) ?_)
          refine tl_nil ?_
          refine tx_then ?_
          refine tr_condp (fe_t rfl) (fun hq19 => ?_) (fun hq20 => ?_)
          · refine tr_skip ?_
            refine tx_then ?_
            refine tr_block ?_
            refine tr_seq ?_
            have hx1 := hg1.next (by omega)
            have hx2 := hx1.1
            refine tr_region ?_
            refine tl_step rfl (oj_val (y_move (fe_t rfl)) ?_)
            refine tl_step rfl (oj_val (y_as (y_subk (fe_t rfl) fe_c) (IntWalk.u64_in _ (by omega))) ?_)
            refine tl_step rfl (oj_val (y_assign (fe_t rfl)) ?_)
            refine tl_nil ?_
            refine tx_then ?_
            refine tr_seq ?_
            refine tr_region ?_
            refine tl_step rfl (oj_val (y_move (fe_t rfl)) ?_)
            refine tl_step rfl (oj_val (y_move (fe_t rfl)) ?_)
            refine tl_step rfl (oj_val (y_as (y_addk (fe_t rfl) (fe_t rfl)) (IntWalk.u64_in _ (by omega))) ?_)
            refine tl_step rfl (oj_val (y_assign (fe_t rfl)) ?_)
            refine tl_nil ?_
            refine tx_then ?_
            refine tr_seq ?_
            refine tr_region ?_
            refine tl_step rfl (oj_val (y_move (fe_t rfl)) ?_)
            refine tl_step rfl (oj_val (y_geq (fe_t rfl) fe_c) ?_)
            refine tl_nil ?_
            refine tx_then ?_
            refine tr_condp (fe_t rfl) (fun hq21 => ?_) (fun hq22 => ?_)
            · refine tr_exit ?_
              refine tx_in_pass rfl ?_
              refine tx_then_exit ?_
              refine tx_in_exit ?_
              refine tx_then ?_
              refine tr_seq ?_
              have hqq : k1 - 1 = q := (hg1.next (by omega)).2.big (by omega)
              refine tr_region ?_
              refine tl_step rfl (oj_val (y_move (fe_t rfl)) ?_)
              refine tl_step rfl (oj_val (y_as (y_mulk (fe_t rfl) fe_c) (u64_wrap _)) ?_)
              refine tl_step rfl (oj_val (y_move (fe_t rfl)) ?_)
              refine tl_step rfl (oj_val (y_as (y_addk (fe_t rfl) (fe_t rfl)) (u64_wrap _)) ?_)
              refine tl_step rfl (oj_val (y_move (fe_t rfl)) ?_)
              refine tl_step rfl (oj_val (y_move (fe_t rfl)) ?_)
              refine tl_step rfl (oj_val (y_as (b := (q * Y % 18446744073709551616)) (y_mulk (fe_t rfl) (fe_t rfl)) (by rw [u64_wrap, hqq])) ?_)
              refine tl_step rfl (oj_val (y_as (b := r) (y_subk (fe_t rfl) (fe_t rfl)) (by rw [u64_wrap]; omega)) ?_)
              refine tl_step rfl (oj_val (y_assign (fe_t rfl)) ?_)
              refine tl_nil ?_
              refine tx_then ?_
              refine tr_seq ?_
              refine tr_region ?_
              refine tl_step rfl (oj_val (y_move (fe_t rfl)) ?_)
              refine tl_step rfl (oj_val (y_move (fe_t rfl)) ?_)
              refine tl_step rfl (oj_val (y_quok (fe_t rfl) (fe_t rfl) ⟨by omega, by omega⟩ (IntWalk.u64_in _ (by omega))) ?_)
              refine tl_step rfl (oj_val (y_assign (fe_t rfl)) ?_)
              refine tl_nil ?_
              refine tx_then ?_
              refine tr_seq ?_
              refine tr_region ?_
              refine tl_step rfl (oj_val (y_move (fe_t rfl)) ?_)
              refine tl_step rfl (oj_val (y_move (fe_t rfl)) ?_)
              refine tl_step rfl (oj_val (y_move (fe_t rfl)) ?_)
              refine tl_step rfl (oj_val (y_as (y_mulk (fe_t rfl) (fe_t rfl)) (IntWalk.u64_in _ (by omega))) ?_)
              refine tl_step rfl (oj_val (y_as (y_subk (fe_t rfl) (fe_t rfl)) (IntWalk.u64_in _ (by omega))) ?_)
              refine tl_step rfl (oj_val (y_assign (fe_t rfl)) ?_)
              refine tl_nil ?_
              refine tx_then ?_
              refine tr_seq ?_
              refine tr_block ?_
              refine tr_loop2 [16, 18, 102, 103, 104, 105, 106, 107, 108, 109, 110, 111, 112, 113, 114, 115, 116, 117, 118, 119, 120] (fun (k2 : Int) (m2 : Int) => [(18, .int .u64 k2), (16, .int .u64 m2)]) 0 (fun (k2 : Int) (m2 : Int) => []) (fun (k2 : Int) (m2 : Int) => Gs r (U % 4294967296) Y (Y / 4294967296) (Y % 4294967296) q' r' k2 m2 ∧ m2 < 4294967296 ∧ k2 ≤ r / (Y / 4294967296)) (fun (k2 : Int) (m2 : Int) => k2.toNat) (r / (Y / 4294967296)) (r - r / (Y / 4294967296) * (Y / 4294967296)) (cov_cons (by first | rfl | exact v_int (by omega) | exact v_bool (by simp [*])) (cov_cons (by first | rfl | exact v_int (by omega) | exact v_bool (by simp [*])) (cov_nil))) (fun w h => h) ?_ ?_
              · try dsimp only
                exact ⟨gs_start e2 (by omega) (by omega) (by omega) (by omega) (by omega) (by omega) (by omega) (by omega) (by omega) (by omega) (by omega), by omega, by omega⟩
              intro k2 m2 hp
              obtain ⟨hg2, hm2, hu2⟩ := hp
              obtain ⟨kk2, hk2⟩ : ∃ x, x = k2 * (Y % 4294967296) := ⟨_, rfl⟩
              have hl2 := hg2.le
              have hh2 := hg2.h0
              refine tr_seq ?_
              refine tr_seq ?_
              refine tr_region ?_
              refine tl_step rfl (oj_val (y_move (fe_t rfl)) ?_)
              refine tl_step rfl (oj_val (y_geq (fe_t rfl) fe_c) ?_)
              refine tl_step rfl (oj_val (y_move (fe_t rfl)) ?_)
              refine tl_splitp (d := 104) rfl (fun hq23 => ?_) (fun hq24 => ?_)
              · refine tl_skip rfl rfl rfl rfl ?_
                refine tl_skip rfl rfl rfl rfl ?_
                refine tl_skip rfl rfl rfl rfl ?_
                refine tl_skip rfl rfl rfl rfl ?_
                refine tl_skip rfl rfl rfl rfl ?_
                refine tl_skip rfl rfl rfl rfl ?_
                refine tl_skip rfl rfl rfl rfl ?_
                refine tl_skip rfl rfl rfl rfl ?_
                refine tl_step rfl (oj_val (y_pickt (fe_t rfl) fe_c) ?_)
                refine tl_nil ?_
                refine tx_then ?_
                refine tr_condt (fe_t rfl) ?_
                refine tr_skip ?_
                refine tx_then ?_
                refine tr_block ?_
                refine tr_seq ?_
                have hy1 := hg2.next (by omega)
                have hy2 := hy1.1
                refine tr_region ?_
                refine tl_step rfl (oj_val (y_move (fe_t rfl)) ?_)
                refine tl_step rfl (oj_val (y_as (y_subk (fe_t rfl) fe_c) (IntWalk.u64_in _ (by omega))) ?_)
                refine tl_step rfl (oj_val (y_assign (fe_t rfl)) ?_)
                refine tl_nil ?_
                refine tx_then ?_
                refine tr_seq ?_
                refine tr_region ?_
                refine tl_step rfl (oj_val (y_move (fe_t rfl)) ?_)
                refine tl_step rfl (oj_val (y_move (fe_t rfl)) ?_)
                refine tl_step rfl (oj_val (y_as (y_addk (fe_t rfl) (fe_t rfl)) (IntWalk.u64_in _ (by omega))) ?_)
                refine tl_step rfl (oj_val (y_assign (fe_t rfl)) ?_)
                refine tl_nil ?_
                refine tx_then ?_
                refine tr_seq ?_
                refine tr_region ?_
                refine tl_step rfl (oj_val (y_move (fe_t rfl)) ?_)
                refine tl_step rfl (oj_val (y_geq (fe_t rfl) fe_c) ?_)
                refine tl_nil ?_
                refine tx_then ?_
                refine tr_condp (fe_t rfl) (fun hq25 => ?_) (fun hq26 => ?_)
                · refine tr_exit ?_
                  refine tx_in_pass rfl ?_
                  refine tx_then_exit ?_
                  refine tx_in_exit ?_
                  refine tx_then ?_
                  refine tr_seq ?_
                  have hqq2 : k2 - 1 = q' := (hg2.next (by omega)).2.big (by omega)
                  obtain ⟨hd1, hd2⟩ := div_end (N := hi * 18446744073709551616 + lo) (y := y) p0 (by omega) hY hN hU2 e1 e2 s0 s1
                  refine tr_region ?_
                  refine tl_step rfl (oj_val (y_move (fe_t rfl)) ?_)
                  refine tl_step rfl (oj_val (y_as (b := (q * 4294967296)) (y_mulk (fe_t rfl) fe_c) (by rw [hqq]; exact IntWalk.u64_in _ (by omega))) ?_)
                  refine tl_step rfl (oj_val (y_move (fe_t rfl)) ?_)
                  refine tl_step rfl (oj_val (y_as (b := (q * 4294967296 + q')) (y_addk (fe_t rfl) (fe_t rfl)) (by rw [hqq2]; exact IntWalk.u64_in _ (by omega))) ?_)
                  refine tl_step rfl (oj_val (y_move (fe_t rfl)) ?_)
                  refine tl_step rfl (oj_val (y_as (y_mulk (fe_t rfl) fe_c) (u64_wrap _)) ?_)
                  refine tl_step rfl (oj_val (y_move (fe_t rfl)) ?_)
                  refine tl_step rfl (oj_val (y_as (y_addk (fe_t rfl) (fe_t rfl)) (u64_wrap _)) ?_)
                  refine tl_step rfl (oj_val (y_move (fe_t rfl)) ?_)
                  refine tl_step rfl (oj_val (y_move (fe_t rfl)) ?_)
                  refine tl_step rfl (oj_val (y_as (b := (q' * Y % 18446744073709551616)) (y_mulk (fe_t rfl) (fe_t rfl)) (by rw [u64_wrap, hqq2])) ?_)
                  refine tl_step rfl (oj_val (y_as (b := r') (y_subk (fe_t rfl) (fe_t rfl)) (by rw [u64_wrap]; omega)) ?_)
                  refine tl_step rfl (oj_val (y_move (fe_t rfl)) ?_)
                  refine tl_step rfl (oj_val (y_as (b := (r' / 2 ^ s)) (y_shr (fe_t rfl) (fe_t rfl) (by omega)) (shr_u64 (by omega))) ?_)
                  refine tl_step rfl (oj_val (y_assign (fe_t rfl)) ?_)
                  refine tl_step rfl (oj_val (y_assign (fe_t rfl)) ?_)
                  refine tl_nil ?_
                  refine tx_then ?_
                  refine tr_ret ?_
                  refine tx_ret (res2 Try.results131 (rok_t rfl) (rok_t rfl)) (fun w' hS => ?_)
                  exact ⟨by rw [hd1, hd2], hS.pick [] _ rfl (by decide)⟩
                · refine tr_skip ?_
                  refine tx_in ?_
                  apply tx_back2 (k2 - 1) (m2 + (Y / 4294967296))
                  · exact (cov_cons (by first | rfl | exact v_int (by omega) | exact v_bool (by simp [*])) (cov_cons (by first | rfl | exact v_int (by omega) | exact v_bool (by simp [*])) (cov_nil)))
                  · repeat (first | exact over_nil | refine over_put rfl ?_ | refine over_drop rfl ?_)
                  · exact fun w h => h.pick [] _ rfl (by decide)
                  · have hnx := hg2.next (by omega)
                    exact ⟨⟨hnx.2, by omega, by omega⟩, by omega⟩
              · refine tl_want rfl rfl rfl (oj_val (y_move (fe_t rfl)) ?_)
                refine tl_want rfl rfl rfl (oj_val (y_move (fe_t rfl)) ?_)
                refine tl_want rfl rfl rfl (oj_val (y_as (y_mulk (fe_t rfl) (fe_t rfl)) (IntWalk.u64_in _ (by have := (dprod (a := k2) (b := Y % 4294967296) (by omega) (by omega)); omega))) ?_)
                refine tl_want rfl rfl rfl (oj_val (y_move (fe_t rfl)) ?_)
                refine tl_want rfl rfl rfl (oj_val (y_as (y_mulk fe_c (fe_t rfl)) (IntWalk.u64_in _ (by omega))) ?_)
                refine tl_want rfl rfl rfl (oj_val (y_move (fe_t rfl)) ?_)
                refine tl_want rfl rfl rfl (oj_val (y_as (y_addk (fe_t rfl) (fe_t rfl)) (IntWalk.u64_in _ (by omega))) ?_)
                refine tl_want rfl rfl rfl (oj_val (y_gtr (fe_t rfl) (fe_t rfl)) ?_)
                refine tl_step rfl (oj_val (y_pickf (fe_t rfl) (fe_t rfl)) ?_)
                refine tl_nil ?_
                refine tx_then ?_
                refine tr_condp (fe_t rfl) (fun hq27 => ?_) (fun hq28 => ?_)
                · refine tr_skip ?_
                  refine tx_then ?_
                  refine tr_block ?_
                  refine tr_seq ?_
                  have hy1 := hg2.next (by omega)
                  have hy2 := hy1.1
                  refine tr_region ?_
                  refine tl_step rfl (oj_val (y_move (fe_t rfl)) ?_)
                  refine tl_step rfl (oj_val (y_as (y_subk (fe_t rfl) fe_c) (IntWalk.u64_in _ (by omega))) ?_)
                  refine tl_step rfl (oj_val (y_assign (fe_t rfl)) ?_)
                  refine tl_nil ?_
                  refine tx_then ?_
                  refine tr_seq ?_
                  refine tr_region ?_
                  refine tl_step rfl (oj_val (y_move (fe_t rfl)) ?_)
                  refine tl_step rfl (oj_val (y_move (fe_t rfl)) ?_)
                  refine tl_step rfl (oj_val (y_as (y_addk (fe_t rfl) (fe_t rfl)) (IntWalk.u64_in _ (by omega))) ?_)
                  refine tl_step rfl (oj_val (y_assign (fe_t rfl)) ?_)
                  refine tl_nil ?_
                  refine tx_then ?_
                  refine tr_seq ?_
                  refine tr_region ?_
                  refine tl_step rfl (oj_val (y_move (fe_t rfl)) ?_)
                  refine tl_step rfl (oj_val (y_geq (fe_t rfl) fe_c) ?_)
                  refine tl_nil ?_
                  refine tx_then ?_
                  refine tr_condp (fe_t rfl) (fun hq29 => ?_) (fun hq30 => ?_)
                  · refine tr_exit ?_
                    refine tx_in_pass rfl ?_
                    refine tx_then_exit ?_
                    refine tx_in_exit ?_
                    refine tx_then ?_
                    refine tr_seq ?_
                    have hqq2 : k2 - 1 = q' := (hg2.next (by omega)).2.big (by omega)
                    obtain ⟨hd1, hd2⟩ := div_end (N := hi * 18446744073709551616 + lo) (y := y) p0 (by omega) hY hN hU2 e1 e2 s0 s1
                    refine tr_region ?_
                    refine tl_step rfl (oj_val (y_move (fe_t rfl)) ?_)
                    refine tl_step rfl (oj_val (y_as (b := (q * 4294967296)) (y_mulk (fe_t rfl) fe_c) (by rw [hqq]; exact IntWalk.u64_in _ (by omega))) ?_)
                    refine tl_step rfl (oj_val (y_move (fe_t rfl)) ?_)
                    refine tl_step rfl (oj_val (y_as (b := (q * 4294967296 + q')) (y_addk (fe_t rfl) (fe_t rfl)) (by rw [hqq2]; exact IntWalk.u64_in _ (by omega))) ?_)
                    refine tl_step rfl (oj_val (y_move (fe_t rfl)) ?_)
                    refine tl_step rfl (oj_val (y_as (y_mulk (fe_t rfl) fe_c) (u64_wrap _)) ?_)
                    refine tl_step rfl (oj_val (y_move (fe_t rfl)) ?_)
                    refine tl_step rfl (oj_val (y_as (y_addk (fe_t rfl) (fe_t rfl)) (u64_wrap _)) ?_)
                    refine tl_step rfl (oj_val (y_move (fe_t rfl)) ?_)
                    refine tl_step rfl (oj_val (y_move (fe_t rfl)) ?_)
                    refine tl_step rfl (oj_val (y_as (b := (q' * Y % 18446744073709551616)) (y_mulk (fe_t rfl) (fe_t rfl)) (by rw [u64_wrap, hqq2])) ?_)
                    refine tl_step rfl (oj_val (y_as (b := r') (y_subk (fe_t rfl) (fe_t rfl)) (by rw [u64_wrap]; omega)) ?_)
                    refine tl_step rfl (oj_val (y_move (fe_t rfl)) ?_)
                    refine tl_step rfl (oj_val (y_as (b := (r' / 2 ^ s)) (y_shr (fe_t rfl) (fe_t rfl) (by omega)) (shr_u64 (by omega))) ?_)
                    refine tl_step rfl (oj_val (y_assign (fe_t rfl)) ?_)
                    refine tl_step rfl (oj_val (y_assign (fe_t rfl)) ?_)
                    refine tl_nil ?_
                    refine tx_then ?_
                    refine tr_ret ?_
                    refine tx_ret (res2 Try.results131 (rok_t rfl) (rok_t rfl)) (fun w' hS => ?_)
                    exact ⟨by rw [hd1, hd2], hS.pick [] _ rfl (by decide)⟩
                  · refine tr_skip ?_
                    refine tx_in ?_
                    apply tx_back2 (k2 - 1) (m2 + (Y / 4294967296))
                    · exact (cov_cons (by first | rfl | exact v_int (by omega) | exact v_bool (by simp [*])) (cov_cons (by first | rfl | exact v_int (by omega) | exact v_bool (by simp [*])) (cov_nil)))
                    · repeat (first | exact over_nil | refine over_put rfl ?_ | refine over_drop rfl ?_)
                    · exact fun w h => h.pick [] _ rfl (by decide)
                    · have hnx := hg2.next (by omega)
                      exact ⟨⟨hnx.2, by omega, by omega⟩, by omega⟩
                · refine tr_exit ?_
                  refine tx_then_exit ?_
                  refine tx_then_exit ?_
                  refine tx_in_exit ?_
                  refine tx_then ?_
                  refine tr_seq ?_
                  have hqq2 : k2 = q' := hg2.done (by omega)
                  obtain ⟨hd1, hd2⟩ := div_end (N := hi * 18446744073709551616 + lo) (y := y) p0 (by omega) hY hN hU2 e1 e2 s0 s1
                  refine tr_region ?_
                  refine tl_step rfl (oj_val (y_move (fe_t rfl)) ?_)
                  refine tl_step rfl (oj_val (y_as (b := (q * 4294967296)) (y_mulk (fe_t rfl) fe_c) (by rw [hqq]; exact IntWalk.u64_in _ (by omega))) ?_)
                  refine tl_step rfl (oj_val (y_move (fe_t rfl)) ?_)
                  refine tl_step rfl (oj_val (y_as (b := (q * 4294967296 + q')) (y_addk (fe_t rfl) (fe_t rfl)) (by rw [hqq2]; exact IntWalk.u64_in _ (by omega))) ?_)
                  refine tl_step rfl (oj_val (y_move (fe_t rfl)) ?_)
                  refine tl_step rfl (oj_val (y_as (y_mulk (fe_t rfl) fe_c) (u64_wrap _)) ?_)
                  refine tl_step rfl (oj_val (y_move (fe_t rfl)) ?_)
                  refine tl_step rfl (oj_val (y_as (y_addk (fe_t rfl) (fe_t rfl)) (u64_wrap _)) ?_)
                  refine tl_step rfl (oj_val (y_move (fe_t rfl)) ?_)
                  refine tl_step rfl (oj_val (y_move (fe_t rfl)) ?_)
                  refine tl_step rfl (oj_val (y_as (b := (q' * Y % 18446744073709551616)) (y_mulk (fe_t rfl) (fe_t rfl)) (by rw [u64_wrap, hqq2])) ?_)
                  refine tl_step rfl (oj_val (y_as (b := r') (y_subk (fe_t rfl) (fe_t rfl)) (by rw [u64_wrap]; omega)) ?_)
                  refine tl_step rfl (oj_val (y_move (fe_t rfl)) ?_)
                  refine tl_step rfl (oj_val (y_as (b := (r' / 2 ^ s)) (y_shr (fe_t rfl) (fe_t rfl) (by omega)) (shr_u64 (by omega))) ?_)
                  refine tl_step rfl (oj_val (y_assign (fe_t rfl)) ?_)
                  refine tl_step rfl (oj_val (y_assign (fe_t rfl)) ?_)
                  refine tl_nil ?_
                  refine tx_then ?_
                  refine tr_ret ?_
                  refine tx_ret (res2 Try.results131 (rok_t rfl) (rok_t rfl)) (fun w' hS => ?_)
                  exact ⟨by rw [hd1, hd2], hS.pick [] _ rfl (by decide)⟩
            · refine tr_skip ?_
              refine tx_in ?_
              apply tx_back2 (k1 - 1) (m1 + (Y / 4294967296))
              · exact (cov_cons (by first | rfl | exact v_int (by omega) | exact v_bool (by simp [*])) (cov_cons (by first | rfl | exact v_int (by omega) | exact v_bool (by simp [*])) (cov_nil)))
              · repeat (first | exact over_nil | refine over_put rfl ?_ | refine over_drop rfl ?_)
              · exact fun w h => h.pick [] _ rfl (by decide)
              · have hnx := hg1.next (by omega)
                exact ⟨⟨hnx.2, by omega, by omega⟩, by omega⟩
          · refine tr_exit ?_
            refine tx_then_exit ?_
            refine tx_then_exit ?_
            refine tx_in_exit ?_
            refine tx_then ?_
            refine tr_seq ?_
            have hqq : k1 = q := hg1.done (by omega)
            refine tr_region ?_
            refine tl_step rfl (oj_val (y_move (fe_t rfl)) ?_)
            refine tl_step rfl (oj_val (y_as (y_mulk (fe_t rfl) fe_c) (u64_wrap _)) ?_)
            refine tl_step rfl (oj_val (y_move (fe_t rfl)) ?_)
            refine tl_step rfl (oj_val (y_as (y_addk (fe_t rfl) (fe_t rfl)) (u64_wrap _)) ?_)
            refine tl_step rfl (oj_val (y_move (fe_t rfl)) ?_)
            refine tl_step rfl (oj_val (y_move (fe_t rfl)) ?_)
            refine tl_step rfl (oj_val (y_as (b := (q * Y % 18446744073709551616)) (y_mulk (fe_t rfl) (fe_t rfl)) (by rw [u64_wrap, hqq])) ?_)
            refine tl_step rfl (oj_val (y_as (b := r) (y_subk (fe_t rfl) (fe_t rfl)) (by rw [u64_wrap]; omega)) ?_)
            refine tl_step rfl (oj_val (y_assign (fe_t rfl)) ?_)
            refine tl_nil ?_
            refine tx_then ?_
            refine tr_seq ?_
            refine tr_region ?_
            refine tl_step rfl (oj_val (y_move (fe_t rfl)) ?_)
            refine tl_step rfl (oj_val (y_move (fe_t rfl)) ?_)
            refine tl_step rfl (oj_val (y_quok (fe_t rfl) (fe_t rfl) ⟨by omega, by omega⟩ (IntWalk.u64_in _ (by omega))) ?_)
            refine tl_step rfl (oj_val (y_assign (fe_t rfl)) ?_)
            refine tl_nil ?_
            refine tx_then ?_
            refine tr_seq ?_
            refine tr_region ?_
            refine tl_step rfl (oj_val (y_move (fe_t rfl)) ?_)
            refine tl_step rfl (oj_val (y_move (fe_t rfl)) ?_)
            refine tl_step rfl (oj_val (y_move (fe_t rfl)) ?_)
            refine tl_step rfl (oj_val (y_as (y_mulk (fe_t rfl) (fe_t rfl)) (IntWalk.u64_in _ (by omega))) ?_)
            refine tl_step rfl (oj_val (y_as (y_subk (fe_t rfl) (fe_t rfl)) (IntWalk.u64_in _ (by omega))) ?_)
            refine tl_step rfl (oj_val (y_assign (fe_t rfl)) ?_)
            refine tl_nil ?_
            refine tx_then ?_
            refine tr_seq ?_
            refine tr_block ?_
            refine tr_loop2 [16, 18, 102, 103, 104, 105, 106, 107, 108, 109, 110, 111, 112, 113, 114, 115, 116, 117, 118, 119, 120] (fun (k2 : Int) (m2 : Int) => [(18, .int .u64 k2), (16, .int .u64 m2)]) 0 (fun (k2 : Int) (m2 : Int) => []) (fun (k2 : Int) (m2 : Int) => Gs r (U % 4294967296) Y (Y / 4294967296) (Y % 4294967296) q' r' k2 m2 ∧ m2 < 4294967296 ∧ k2 ≤ r / (Y / 4294967296)) (fun (k2 : Int) (m2 : Int) => k2.toNat) (r / (Y / 4294967296)) (r - r / (Y / 4294967296) * (Y / 4294967296)) (cov_cons (by first | rfl | exact v_int (by omega) | exact v_bool (by simp [*])) (cov_cons (by first | rfl | exact v_int (by omega) | exact v_bool (by simp [*])) (cov_nil))) (fun w h => h) ?_ ?_
            · try dsimp only
              exact ⟨gs_start e2 (by omega) (by omega) (by omega) (by omega) (by omega) (by omega) (by omega) (by omega) (by omega) (by omega) (by omega), by omega, by omega⟩
            intro k2 m2 hp
            obtain ⟨hg2, hm2, hu2⟩ := hp
            obtain ⟨kk2, hk2⟩ : ∃ x, x = k2 * (Y % 4294967296) := ⟨_, rfl⟩
            have hl2 := hg2.le
            have hh2 := hg2.h0
            refine tr_seq ?_
            refine tr_seq ?_
            refine tr_region ?_
            refine tl_step rfl (oj_val (y_move (fe_t rfl)) ?_)
            refine tl_step rfl (oj_val (y_geq (fe_t rfl) fe_c) ?_)
            refine tl_step rfl (oj_val (y_move (fe_t rfl)) ?_)
            refine tl_splitp (d := 104) rfl (fun hq31 => ?_) (fun hq32 => ?_)
            · refine tl_skip rfl rfl rfl rfl ?_
              refine tl_skip rfl rfl rfl rfl ?_
              refine tl_skip rfl rfl rfl rfl ?_
              refine tl_skip rfl rfl rfl rfl ?_
              refine tl_skip rfl rfl rfl rfl ?_
              refine tl_skip rfl rfl rfl rfl ?_
              refine tl_skip rfl rfl rfl rfl ?_
              refine tl_skip rfl rfl rfl rfl ?_
              refine tl_step rfl (oj_val (y_pickt (fe_t rfl) fe_c) ?_)
              refine tl_nil ?_
              refine tx_then ?_
              refine tr_condt (fe_t rfl) ?_
              refine tr_skip ?_
              refine tx_then ?_
              refine tr_block ?_
              refine tr_seq ?_
              have hy1 := hg2.next (by omega)
              have hy2 := hy1.1
              refine tr_region ?_
              refine tl_step rfl (oj_val (y_move (fe_t rfl)) ?_)
              refine tl_step rfl (oj_val (y_as (y_subk (fe_t rfl) fe_c) (IntWalk.u64_in _ (by omega))) ?_)
              refine tl_step rfl (oj_val (y_assign (fe_t rfl)) ?_)
              refine tl_nil ?_
              refine tx_then ?_
              refine tr_seq ?_
              refine tr_region ?_
              refine tl_step rfl (oj_val (y_move (fe_t rfl)) ?_)
              refine tl_step rfl (oj_val (y_move (fe_t rfl)) ?_)
              refine tl_step rfl (oj_val (y_as (y_addk (fe_t rfl) (fe_t rfl)) (IntWalk.u64_in _ (by omega))) ?_)
              refine tl_step rfl (oj_val (y_assign (fe_t rfl)) ?_)
              refine tl_nil ?_
              refine tx_then ?_
              refine tr_seq ?_
              refine tr_region ?_
              refine tl_step rfl (oj_val (y_move (fe_t rfl)) ?_)
              refine tl_step rfl (oj_val (y_geq (fe_t rfl) fe_c) ?_)
              refine tl_nil ?_
              refine tx_then ?_
              refine tr_condp (fe_t rfl) (fun hq33 => ?_) (fun hq34 => ?_)
              · refine tr_exit ?_
                refine tx_in_pass rfl ?_
                refine tx_then_exit ?_
                refine tx_in_exit ?_
                refine tx_then ?_
                refine tr_seq ?_
                have hqq2 : k2 - 1 = q' := (hg2.next (by omega)).2.big (by omega)
                obtain ⟨hd1, hd2⟩ := div_end (N := hi * 18446744073709551616 + lo) (y := y) p0 (by omega) hY hN hU2 e1 e2 s0 s1
                refine tr_region ?_
                refine tl_step rfl (oj_val (y_move (fe_t rfl)) ?_)
                refine tl_step rfl (oj_val (y_as (b := (q * 4294967296)) (y_mulk (fe_t rfl) fe_c) (by rw [hqq]; exact IntWalk.u64_in _ (by omega))) ?_)
                refine tl_step rfl (oj_val (y_move (fe_t rfl)) ?_)
                refine tl_step rfl (oj_val (y_as (b := (q * 4294967296 + q')) (y_addk (fe_t rfl) (fe_t rfl)) (by rw [hqq2]; exact IntWalk.u64_in _ (by omega))) ?_)
                refine tl_step rfl (oj_val (y_move (fe_t rfl)) ?_)
                refine tl_step rfl (oj_val (y_as (y_mulk (fe_t rfl) fe_c) (u64_wrap _)) ?_)
                refine tl_step rfl (oj_val (y_move (fe_t rfl)) ?_)
                refine tl_step rfl (oj_val (y_as (y_addk (fe_t rfl) (fe_t rfl)) (u64_wrap _)) ?_)
                refine tl_step rfl (oj_val (y_move (fe_t rfl)) ?_)
                refine tl_step rfl (oj_val (y_move (fe_t rfl)) ?_)
                refine tl_step rfl (oj_val (y_as (b := (q' * Y % 18446744073709551616)) (y_mulk (fe_t rfl) (fe_t rfl)) (by rw [u64_wrap, hqq2])) ?_)
                refine tl_step rfl (oj_val (y_as (b := r') (y_subk (fe_t rfl) (fe_t rfl)) (by rw [u64_wrap]; omega)) ?_)
                refine tl_step rfl (oj_val (y_move (fe_t rfl)) ?_)
                refine tl_step rfl (oj_val (y_as (b := (r' / 2 ^ s)) (y_shr (fe_t rfl) (fe_t rfl) (by omega)) (shr_u64 (by omega))) ?_)
                refine tl_step rfl (oj_val (y_assign (fe_t rfl)) ?_)
                refine tl_step rfl (oj_val (y_assign (fe_t rfl)) ?_)
                refine tl_nil ?_
                refine tx_then ?_
                refine tr_ret ?_
                refine tx_ret (res2 Try.results131 (rok_t rfl) (rok_t rfl)) (fun w' hS => ?_)
                exact ⟨by rw [hd1, hd2], hS.pick [] _ rfl (by decide)⟩
              · refine tr_skip ?_
                refine tx_in ?_
                apply tx_back2 (k2 - 1) (m2 + (Y / 4294967296))
                · exact (cov_cons (by first | rfl | exact v_int (by omega) | exact v_bool (by simp [*])) (cov_cons (by first | rfl | exact v_int (by omega) | exact v_bool (by simp [*])) (cov_nil)))
                · repeat (first | exact over_nil | refine over_put rfl ?_ | refine over_drop rfl ?_)
                · exact fun w h => h.pick [] _ rfl (by decide)
                · have hnx := hg2.next (by omega)
                  exact ⟨⟨hnx.2, by omega, by omega⟩, by omega⟩
            · refine tl_want rfl rfl rfl (oj_val (y_move (fe_t rfl)) ?_)
              refine tl_want rfl rfl rfl (oj_val (y_move (fe_t rfl)) ?_)
              refine tl_want rfl rfl rfl (oj_val (y_as (y_mulk (fe_t rfl) (fe_t rfl)) (IntWalk.u64_in _ (by have := (dprod (a := k2) (b := Y % 4294967296) (by omega) (by omega)); omega))) ?_)
              refine tl_want rfl rfl rfl (oj_val (y_move (fe_t rfl)) ?_)
              refine tl_want rfl rfl rfl (oj_val (y_as (y_mulk fe_c (fe_t rfl)) (IntWalk.u64_in _ (by omega))) ?_)
              refine tl_want rfl rfl rfl (oj_val (y_move (fe_t rfl)) ?_)
              refine tl_want rfl rfl rfl (oj_val (y_as (y_addk (fe_t rfl) (fe_t rfl)) (IntWalk.u64_in _ (by omega))) ?_)
              refine tl_want rfl rfl rfl (oj_val (y_gtr (fe_t rfl) (fe_t rfl)) ?_)
              refine tl_step rfl (oj_val (y_pickf (fe_t rfl) (fe_t rfl)) ?_)
              refine tl_nil ?_
              refine tx_then ?_
              refine tr_condp (fe_t rfl) (fun hq35 => ?_) (fun hq36 => ?_)
              · refine tr_skip ?_
                refine tx_then ?_
                refine tr_block ?_
                refine tr_seq ?_
                have hy1 := hg2.next (by omega)
                have hy2 := hy1.1
                refine tr_region ?_
                refine tl_step rfl (oj_val (y_move (fe_t rfl)) ?_)
                refine tl_step rfl (oj_val (y_as (y_subk (fe_t rfl) fe_c) (IntWalk.u64_in _ (by omega))) ?_)
                refine tl_step rfl (oj_val (y_assign (fe_t rfl)) ?_)
                refine tl_nil ?_
                refine tx_then ?_
                refine tr_seq ?_
                refine tr_region ?_
                refine tl_step rfl (oj_val (y_move (fe_t rfl)) ?_)
                refine tl_step rfl (oj_val (y_move (fe_t rfl)) ?_)
                refine tl_step rfl (oj_val (y_as (y_addk (fe_t rfl) (fe_t rfl)) (IntWalk.u64_in _ (by omega))) ?_)
                refine tl_step rfl (oj_val (y_assign (fe_t rfl)) ?_)
                refine tl_nil ?_
                refine tx_then ?_
                refine tr_seq ?_
                refine tr_region ?_
                refine tl_step rfl (oj_val (y_move (fe_t rfl)) ?_)
                refine tl_step rfl (oj_val (y_geq (fe_t rfl) fe_c) ?_)
                refine tl_nil ?_
                refine tx_then ?_
                refine tr_condp (fe_t rfl) (fun hq37 => ?_) (fun hq38 => ?_)
                · refine tr_exit ?_
                  refine tx_in_pass rfl ?_
                  refine tx_then_exit ?_
                  refine tx_in_exit ?_
                  refine tx_then ?_
                  refine tr_seq ?_
                  have hqq2 : k2 - 1 = q' := (hg2.next (by omega)).2.big (by omega)
                  obtain ⟨hd1, hd2⟩ := div_end (N := hi * 18446744073709551616 + lo) (y := y) p0 (by omega) hY hN hU2 e1 e2 s0 s1
                  refine tr_region ?_
                  refine tl_step rfl (oj_val (y_move (fe_t rfl)) ?_)
                  refine tl_step rfl (oj_val (y_as (b := (q * 4294967296)) (y_mulk (fe_t rfl) fe_c) (by rw [hqq]; exact IntWalk.u64_in _ (by omega))) ?_)
                  refine tl_step rfl (oj_val (y_move (fe_t rfl)) ?_)
                  refine tl_step rfl (oj_val (y_as (b := (q * 4294967296 + q')) (y_addk (fe_t rfl) (fe_t rfl)) (by rw [hqq2]; exact IntWalk.u64_in _ (by omega))) ?_)
                  refine tl_step rfl (oj_val (y_move (fe_t rfl)) ?_)
                  refine tl_step rfl (oj_val (y_as (y_mulk (fe_t rfl) fe_c) (u64_wrap _)) ?_)
                  refine tl_step rfl (oj_val (y_move (fe_t rfl)) ?_)
                  refine tl_step rfl (oj_val (y_as (y_addk (fe_t rfl) (fe_t rfl)) (u64_wrap _)) ?_)
                  refine tl_step rfl (oj_val (y_move (fe_t rfl)) ?_)
                  refine tl_step rfl (oj_val (y_move (fe_t rfl)) ?_)
                  refine tl_step rfl (oj_val (y_as (b := (q' * Y % 18446744073709551616)) (y_mulk (fe_t rfl) (fe_t rfl)) (by rw [u64_wrap, hqq2])) ?_)
                  refine tl_step rfl (oj_val (y_as (b := r') (y_subk (fe_t rfl) (fe_t rfl)) (by rw [u64_wrap]; omega)) ?_)
                  refine tl_step rfl (oj_val (y_move (fe_t rfl)) ?_)
                  refine tl_step rfl (oj_val (y_as (b := (r' / 2 ^ s)) (y_shr (fe_t rfl) (fe_t rfl) (by omega)) (shr_u64 (by omega))) ?_)
                  refine tl_step rfl (oj_val (y_assign (fe_t rfl)) ?_)
                  refine tl_step rfl (oj_val (y_assign (fe_t rfl)) ?_)
                  refine tl_nil ?_
                  refine tx_then ?_
                  refine tr_ret ?_
                  refine tx_ret (res2 Try.results131 (rok_t rfl) (rok_t rfl)) (fun w' hS => ?_)
                  exact ⟨by rw [hd1, hd2], hS.pick [] _ rfl (by decide)⟩
                · refine tr_skip ?_
                  refine tx_in ?_
                  apply tx_back2 (k2 - 1) (m2 + (Y / 4294967296))
                  · exact (cov_cons (by first | rfl | exact v_int (by omega) | exact v_bool (by simp [*])) (cov_cons (by first | rfl | exact v_int (by omega) | exact v_bool (by simp [*])) (cov_nil)))
                  · repeat (first | exact over_nil | refine over_put rfl ?_ | refine over_drop rfl ?_)
                  · exact fun w h => h.pick [] _ rfl (by decide)
                  · have hnx := hg2.next (by omega)
                    exact ⟨⟨hnx.2, by omega, by omega⟩, by omega⟩
              · refine tr_exit ?_
                refine tx_then_exit ?_
                refine tx_then_exit ?_
                refine tx_in_exit ?_
                refine tx_then ?_
                refine tr_seq ?_
                have hqq2 : k2 = q' := hg2.done (by omega)
                obtain ⟨hd1, hd2⟩ := div_end (N := hi * 18446744073709551616 + lo) (y := y) p0 (by omega) hY hN hU2 e1 e2 s0 s1
                refine tr_region ?_
                refine tl_step rfl (oj_val (y_move (fe_t rfl)) ?_)
                refine tl_step rfl (oj_val (y_as (b := (q * 4294967296)) (y_mulk (fe_t rfl) fe_c) (by rw [hqq]; exact IntWalk.u64_in _ (by omega))) ?_)
                refine tl_step rfl (oj_val (y_move (fe_t rfl)) ?_)
                refine tl_step rfl (oj_val (y_as (b := (q * 4294967296 + q')) (y_addk (fe_t rfl) (fe_t rfl)) (by rw [hqq2]; exact IntWalk.u64_in _ (by omega))) ?_)
                refine tl_step rfl (oj_val (y_move (fe_t rfl)) ?_)
                refine tl_step rfl (oj_val (y_as (y_mulk (fe_t rfl) fe_c) (u64_wrap _)) ?_)
                refine tl_step rfl (oj_val (y_move (fe_t rfl)) ?_)
                refine tl_step rfl (oj_val (y_as (y_addk (fe_t rfl) (fe_t rfl)) (u64_wrap _)) ?_)
                refine tl_step rfl (oj_val (y_move (fe_t rfl)) ?_)
                refine tl_step rfl (oj_val (y_move (fe_t rfl)) ?_)
                refine tl_step rfl (oj_val (y_as (b := (q' * Y % 18446744073709551616)) (y_mulk (fe_t rfl) (fe_t rfl)) (by rw [u64_wrap, hqq2])) ?_)
                refine tl_step rfl (oj_val (y_as (b := r') (y_subk (fe_t rfl) (fe_t rfl)) (by rw [u64_wrap]; omega)) ?_)
                refine tl_step rfl (oj_val (y_move (fe_t rfl)) ?_)
                refine tl_step rfl (oj_val (y_as (b := (r' / 2 ^ s)) (y_shr (fe_t rfl) (fe_t rfl) (by omega)) (shr_u64 (by omega))) ?_)
                refine tl_step rfl (oj_val (y_assign (fe_t rfl)) ?_)
                refine tl_step rfl (oj_val (y_assign (fe_t rfl)) ?_)
                refine tl_nil ?_
                refine tx_then ?_
                refine tr_ret ?_
                refine tx_ret (res2 Try.results131 (rok_t rfl) (rok_t rfl)) (fun w' hS => ?_)
                exact ⟨by rw [hd1, hd2], hS.pick [] _ rfl (by decide)⟩

end Go.Proofs.Ytcpdelkamckmfaa.Frac
