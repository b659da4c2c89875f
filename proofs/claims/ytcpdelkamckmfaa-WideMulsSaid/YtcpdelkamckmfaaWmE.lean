/- A wide number divided by a word. -/
import Derived.Test.YtcpdelkamckmfaaWmD
namespace Go.Proofs.Ytcpdelkamckmfaa.Frac
open Go.RowKit Go.Proofs.Ytcpdelkamckmfaa.E Go.Proofs.Ytcpdelkamckmfaa.Big

theorem div64E {hi lo y : Int} (h0 : 0 ≤ hi) (h1 : hi < y) (y1 : y < 18446744073709551616) (l0 : 0 ≤ lo) (l1 : lo < 18446744073709551616) (w : World) :
    Calls Try.prog 131 #[.int .u64 hi, .int .u64 lo, .int .u64 y] w fun e w' => e = .returned (.tuple #[.int .u64 ((hi * 18446744073709551616 + lo) / y), .int .u64 ((hi * 18446744073709551616 + lo) % y)]) ∧ St w w' [] := by
  by_cases hz : hi = 0
  · exact div64_z h0 h1 y1 l0 l1 hz w
  · exact div64_n h0 h1 y1 l0 l1 hz w
theorem wdiv_val {u v y : Int} (ha : WB u v) (hy : 0 < y) : (u % y * 18446744073709551616 + v) / y < 18446744073709551616 ∧ 0 ≤ (u % y * 18446744073709551616 + v) / y ∧ wr ((u * 18446744073709551616 + v) / y) = .agg #[.int .u64 (u / y), .int .u64 ((u % y * 18446744073709551616 + v) / y)] ∧ (u * 18446744073709551616 + v) % y = (u % y * 18446744073709551616 + v) % y := by
  obtain ⟨a0, a1, a2, a3⟩ := ha
  have m0 := Int.emod_nonneg u (show y ≠ 0 by omega)
  have m1 := Int.emod_lt_of_pos u hy
  have mm := Int.mul_ediv_add_emod u y
  have q0 : 0 ≤ u / y := Int.ediv_nonneg a0 (by omega)
  have q1 : u / y ≤ u := Int.ediv_le_self _ a0
  have e0 : u * 18446744073709551616 + v = (u % y * 18446744073709551616 + v) + u / y * 18446744073709551616 * y := by
    generalize u / y = q at *
    generalize u % y = r at *
    rw [← mm]
    grind
  have f0 : 0 ≤ (u % y * 18446744073709551616 + v) / y := Int.ediv_nonneg (by omega) (by omega)
  have f1 : (u % y * 18446744073709551616 + v) / y < 18446744073709551616 := by
    rw [Int.ediv_lt_iff_lt_mul hy]
    have : (u % y + 1) * 18446744073709551616 ≤ y * 18446744073709551616 := by omega
    omega
  have e1 : (u * 18446744073709551616 + v) / y = (u % y * 18446744073709551616 + v) / y + u / y * 18446744073709551616 := by
    rw [e0, Int.add_mul_ediv_right _ _ (by omega)]
  refine ⟨f1, f0, ?_, ?_⟩
  · rw [e1]
    unfold wr
    generalize (u % y * 18446744073709551616 + v) / y = a at *
    generalize u / y = b at *
    rw [show (a + b * 18446744073709551616) / 18446744073709551616 % 18446744073709551616 = b by omega, show (a + b * 18446744073709551616) % 18446744073709551616 = a by omega]
  · rw [e0, Int.add_mul_emod_self_right]

set_option maxRecDepth 100000 in
set_option maxHeartbeats 1000000 in
theorem wdiv_z {u v y : Int} (ha : WB u v) (hy : y = 0) (hy1 : y ≤ 18446744073709551615) (w : World) :
    Calls Try.prog 51 #[.agg #[.int .u64 u, .int .u64 v], .int .u64 y] w fun e w' => e = .returned (.tuple #[.agg #[.int .u64 0, .int .u64 0], .int .u64 0, (.int .i64 2)]) ∧ St w w' [] := by
  obtain ⟨a0, a1, a2, a3⟩ := ha
  refine calls_tr Try.func51 Try.ntmps51 rfl rfl (St.refl _) ?_
  refine tr_seq ?_
  refine tr_region ?_
  refine tl_step rfl (oj_box (fe_t rfl) (fun b1 => ?_))
  refine tl_step rfl (oj_alloc Try.zeroValue54 (fun b2 => ?_))
  refine tl_step rfl (oj_val (y_assign fe_c) ?_)
  refine tl_step rfl (oj_val (y_assign fe_c) ?_)
  refine tl_nil ?_
  refine tx_then ?_
  refine tr_seq ?_
  refine tr_seq ?_
  refine tr_region ?_
  refine tl_step rfl (oj_val (y_move (fe_t rfl)) ?_)
  refine tl_step rfl (oj_val (y_eq (fe_t rfl) fe_c) ?_)
  refine tl_nil ?_
  refine tx_then ?_
  refine tr_condp (fe_t rfl) (fun hq1 => ?_) (fun hq2 => ?_)
  · refine tr_seq ?_
    refine tr_region ?_
    refine tl_step rfl (oj_val (y_build (is := []) (vs := []) (cs := [.int .u64 0, .int .u64 0]) rfl fel_nil (by kernel_rfl)) ?_)
    refine tl_step rfl (oj_storeW 0 Try.sizeOf54 (fe_t rfl) (fe_t rfl) rfl rfl rfl rfl rfl (?_))
    refine tl_step rfl (oj_val (y_assign fe_c) ?_)
    refine tl_step rfl (oj_val (y_assign fe_c) ?_)
    refine tl_nil ?_
    refine tx_then ?_
    refine tr_ret ?_
    refine tx_then_ret ?_
    refine tx_ret (res3 Try.results51 (rok_b 0 Try.isAgg54 Try.sizeOf54 rfl rfl rfl) (rok_t rfl) (rok_t rfl)) (fun w' hS => ?_)
    exact ⟨rfl, hS.pick [] _ rfl (by decide)⟩
  · exfalso; omega

set_option maxRecDepth 100000 in
set_option maxHeartbeats 1000000 in
theorem wdiv_p {u v y : Int} (ha : WB u v) (hy : 0 < y) (hy1 : y ≤ 18446744073709551615) (w : World) :
    Calls Try.prog 51 #[.agg #[.int .u64 u, .int .u64 v], .int .u64 y] w fun e w' => e = .returned (.tuple #[wr ((u * 18446744073709551616 + v) / y), .int .u64 ((u * 18446744073709551616 + v) % y), (.int .i64 0)]) ∧ St w w' [] := by
  have hv := wdiv_val ha hy
  obtain ⟨a0, a1, a2, a3⟩ := ha
  have m0 := Int.emod_nonneg u (show y ≠ 0 by omega)
  have m1 := Int.emod_lt_of_pos u hy
  have q0 : 0 ≤ u / y := Int.ediv_nonneg a0 (by omega)
  have q1 : u / y ≤ u := Int.ediv_le_self _ a0
  refine calls_tr Try.func51 Try.ntmps51 rfl rfl (St.refl _) ?_
  refine tr_seq ?_
  refine tr_region ?_
  refine tl_step rfl (oj_box (fe_t rfl) (fun b1 => ?_))
  refine tl_step rfl (oj_alloc Try.zeroValue54 (fun b2 => ?_))
  refine tl_step rfl (oj_val (y_assign fe_c) ?_)
  refine tl_step rfl (oj_val (y_assign fe_c) ?_)
  refine tl_nil ?_
  refine tx_then ?_
  refine tr_seq ?_
  refine tr_seq ?_
  refine tr_region ?_
  refine tl_step rfl (oj_val (y_move (fe_t rfl)) ?_)
  refine tl_step rfl (oj_val (y_eq (fe_t rfl) fe_c) ?_)
  refine tl_nil ?_
  refine tx_then ?_
  refine tr_condp (fe_t rfl) (fun hq1 => ?_) (fun hq2 => ?_)
  · exfalso; omega
  · refine tr_skip ?_
    refine tx_then ?_
    refine tr_seq ?_
    refine tb_draw 10 (sel _ [0, 1]) (fun w h => h.sel _ rfl (by decide)) rfl ?_
    refine tb_float (i := 0) rfl (by kernel_rfl) rfl (wants_none rfl) (yq_of (y_fieldAddr (td := 41) Try.underlying54 rfl rfl Try.sizeOf41 (o' := 0) rfl (fe_t rfl))) ?_
    refine tb_float (i := 1) rfl (by kernel_rfl) rfl (wants_none rfl) (yq_of (y_ldb 1 Try.isAgg41 (fe_t rfl) rfl rfl)) ?_
    refine tb_float (i := 2) rfl (by kernel_rfl) rfl (wants_none rfl) (yq_of (y_move (fe_t rfl))) ?_
    refine tb_float (i := 3) rfl (by kernel_rfl) rfl (wants_none rfl) (yq_of (y_quok (fe_t rfl) (fe_t rfl) ⟨by omega, by omega⟩ (IntWalk.u64_in _ (by omega)))) ?_
    refine tb_float (i := 4) rfl (by kernel_rfl) rfl (wants_none rfl) (yq_of (y_fieldAddr (td := 41) Try.underlying54 rfl rfl Try.sizeOf41 (o' := 0) rfl (fe_t rfl))) ?_
    refine tb_float (i := 5) rfl (by kernel_rfl) rfl (wants_none rfl) (yq_of (y_ldb 1 Try.isAgg41 (fe_t rfl) rfl rfl)) ?_
    refine tb_float (i := 6) rfl (by kernel_rfl) rfl (wants_none rfl) (yq_of (y_move (fe_t rfl))) ?_
    refine tb_float (i := 7) rfl (by kernel_rfl) rfl (wants_none rfl) (yq_of (y_rem (fe_t rfl) (fe_t rfl) (by omega))) ?_
    refine tb_float (i := 8) rfl (by kernel_rfl) rfl (wants_none rfl) (yq_of (y_assign (fe_t rfl))) ?_
    refine tb_float (i := 9) rfl (by kernel_rfl) rfl (wants_none rfl) (yq_of (y_assign (fe_t rfl))) ?_
    refine tb_done (by kernel_rfl) ?_
    refine tx_then ?_
    refine tr_seq ?_
    refine tr_region ?_
    refine tl_step rfl (oj_val (y_move (fe_t rfl)) ?_)
    refine tl_step rfl (oj_val (y_fieldAddr (td := 41) Try.underlying54 rfl rfl Try.sizeOf41 (o' := 1) rfl (fe_t rfl)) ?_)
    refine tl_step rfl (oj_val (y_ldb 1 Try.isAgg41 (fe_t rfl) rfl rfl) ?_)
    refine tl_step rfl (oj_val (y_move (fe_t rfl)) ?_)
    refine tl_step rfl (oj_callv Try.call131 fe_f (fel_cons (fe_t rfl) (fel_cons (fe_t rfl) (fel_cons (fe_t rfl) fel_nil))) (fun w' hS => div64E (by omega) (by omega) (by omega) (by omega) (by omega) w') ?_)
    refine tl_step rfl (oj_val (y_move (fe_t rfl)) ?_)
    refine tl_step rfl (oj_val (y_extract (fe_t rfl) rfl) ?_)
    refine tl_step rfl (oj_val (y_extract (fe_t rfl) rfl) ?_)
    refine tl_step rfl (oj_val (y_assign (fe_t rfl)) ?_)
    refine tl_step rfl (oj_val (y_assign (fe_t rfl)) ?_)
    refine tl_nil ?_
    refine tx_then ?_
    refine tr_seq ?_
    refine tr_region ?_
    refine tl_step rfl (oj_val (y_move (fe_t rfl)) ?_)
    refine tl_step rfl (oj_val (y_move (fe_t rfl)) ?_)
    refine tl_step rfl (oj_val ((fun {u0 u1} hx hb => y_build (is := [0, 1]) (vs := [u0, u1]) (cs := [u0, u1]) rfl hx hb) (fel_cons (fe_t rfl) (fel_cons (fe_t rfl) fel_nil)) (by kernel_rfl)) ?_)
    refine tl_step rfl (oj_val (y_move (fe_t rfl)) ?_)
    refine tl_step rfl (oj_storeW 0 Try.sizeOf54 (fe_t rfl) (fe_t rfl) rfl rfl rfl rfl rfl (?_))
    refine tl_step rfl (oj_val (y_assign (fe_t rfl)) ?_)
    refine tl_step rfl (oj_val (y_assign fe_c) ?_)
    refine tl_nil ?_
    refine tx_then ?_
    refine tr_ret ?_
    refine tx_ret (res3 Try.results51 (rok_b 0 Try.isAgg54 Try.sizeOf54 rfl rfl rfl) (rok_t rfl) (rok_t rfl)) (fun w' hS => ?_)
    exact ⟨by rw [hv.2.2.1, hv.2.2.2] <;> rfl, hS.pick [] _ rfl (by decide)⟩

end Go.Proofs.Ytcpdelkamckmfaa.Frac
