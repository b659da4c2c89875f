/- the sketch: cells, Count. -/
import Derived.Test.YtcpdelkamckmfaaSkP
namespace Go.Proofs.Ytcpdelkamckmfaa.Frac
open Go.RowKit Go.Proofs.Ytcpdelkamckmfaa.E Go.Proofs.Ytcpdelkamckmfaa.Big

set_option maxRecDepth 100000 in
set_option maxHeartbeats 2000000 in
theorem cells_ok {width id : Int} (R : Nat) (A : Option Addr) (n c : Nat) (w : World) (hR : R ≤ 8) (w0 : 1 ≤ width) (w1 : width ≤ 64) (i0 : 0 ≤ id) (i1 : id < 18446744073709551616) :
    Calls Try.prog 133 #[.agg #[(.int .i64 ((R : Int))), (.int .i64 width), .slice A n c], .int .u64 id] w fun e w' => ∃ v : Vs, (v.n = R ∧ v.xs = cI (spots width id R)) ∧ e = .returned (.slice v.A v.n v.c) ∧ St w w' [vec 3 1 (.slice v.A v.n v.c) v.n v.xs] := by
  refine calls_tr Try.func133 Try.ntmps133 rfl rfl (St.refl _) ?_
  refine tr_seq ?_
  refine tr_region ?_
  refine tl_step rfl (oj_box (fe_t rfl) (fun b1 => ?_))
  refine tl_step rfl (oj_val (y_assign fe_c) ?_)
  refine tl_nil ?_
  refine tx_then ?_
  refine tr_seq ?_
  refine tr_region ?_
  refine tl_step rfl (oj_val (y_assign fe_c) ?_)
  refine tl_nil ?_
  refine tx_then ?_
  refine tr_seq ?_
  refine tr_seq ?_
  refine tr_region ?_
  refine tl_step rfl (oj_val (y_fieldAddr (td := 3) Try.underlying81 rfl rfl Try.sizeOf3 (o' := 0) rfl (fe_t rfl)) ?_)
  refine tl_step rfl (oj_val (y_ldb 0 Try.isAgg3 (fe_t rfl) rfl rfl) ?_)
  refine tl_step rfl (oj_val (y_move fe_c) ?_)
  refine tl_nil ?_
  refine tx_then ?_
  refine tr_block ?_
  refine tr_add (r := vec 3 1 (.slice none 0 0) 0 []) vec_nil rfl ?_
  refine tr_loop2 [5, 6, 7, 8, 11, 12, 13, 14, 15, 16, 17, 18, 19, 20, 21, 22, 23, 24, 25, 26, 27, 28, 29, 30, 31] (fun (k : Nat) (s1 : Vs) => [(11, .int .i64 (k : Int)), (5, .slice s1.A s1.n s1.c)]) 0 (fun (k : Nat) (s1 : Vs) => [(0, vec 3 1 (.slice s1.A s1.n s1.c) s1.n s1.xs)]) (fun (k : Nat) (s1 : Vs) => k ≤ R ∧ s1.n = k ∧ s1.xs = cI (spots width id k)) (fun (k : Nat) (s1 : Vs) => R - k) (0) (⟨none, 0, 0, []⟩ : Vs) (cov_cons (by first | rfl | exact v_int (by omega) | exact v_bool (by simp [*])) (cov_cons (by first | rfl | exact v_int (by omega) | exact v_bool (by simp [*])) (cov_nil))) (fun w h => h) ?_ ?_
  · try dsimp only
    exact ⟨by omega, rfl, rfl⟩
  intro k s1 hp
  obtain ⟨hk, hn1, hx1⟩ := hp
  refine tr_seq ?_
  refine tr_region ?_
  refine tl_step rfl (oj_val (y_lss (fe_t rfl) (fe_t rfl)) ?_)
  refine tl_nil ?_
  refine tx_then ?_
  refine tr_seq ?_
  refine tr_condp (fe_t rfl) (fun hq1 => ?_) (fun hq2 => ?_)
  · refine tr_skip ?_
    refine tx_then ?_
    refine tr_seq ?_
    refine tr_block ?_
    refine tr_seq ?_
    refine tr_region ?_
    refine tl_step rfl (oj_val (y_move (fe_t rfl)) ?_)
    refine tl_step rfl (oj_val (y_assign (fe_t rfl)) ?_)
    refine tl_nil ?_
    refine tx_then ?_
    refine tr_seq ?_
    have hsb := spots_bd (id := id) (r := R) (k := k) w0 (by omega)
    have hsk := spot_bd (row := (k : Int)) (width := width) (id := id) w0
    have hmc := Int.mul_comm width (k : Int)
    have hR8 : (R : Int) * width ≤ 8 * 64 := Int.mul_le_mul (by omega) w1 (by omega) (by omega)
    have hk0 : 0 ≤ (k : Int) * width := Int.mul_nonneg (by omega) (by omega)
    refine tr_region ?_
    refine tl_step rfl (oj_val (y_move (fe_t rfl)) ?_)
    refine tl_step rfl (oj_val (y_fieldAddr (td := 3) Try.underlying81 rfl rfl Try.sizeOf3 (o' := 1) rfl (fe_t rfl)) ?_)
    refine tl_step rfl (oj_val (y_ldb 1 Try.isAgg3 (fe_t rfl) rfl rfl) ?_)
    refine tl_step rfl (oj_val (y_move (fe_t rfl)) ?_)
    refine tl_step rfl (oj_callv Try.call58 fe_f (fel_cons (fe_t rfl) (fel_cons (fe_t rfl) (fel_cons (fe_t rfl) fel_nil))) (fun w' hS => place_ok w' (by omega) (by omega) w0 w1 i0 i1) ?_)
    refine tl_step rfl (oj_val (y_move (fe_t rfl)) ?_)
    refine tl_step rfl (oj_val (y_extract (fe_t rfl) rfl) ?_)
    refine tl_step rfl (oj_val (y_extract (fe_t rfl) rfl) ?_)
    refine tl_step rfl (oj_val (y_assign (fe_t rfl)) ?_)
    refine tl_step rfl (oj_val (y_assign (fe_t rfl)) ?_)
    refine tl_nil ?_
    refine tx_then ?_
    refine tr_region ?_
    refine tl_step rfl (oj_val (y_move (fe_t rfl)) ?_)
    refine tl_step rfl (oj_val (y_move (fe_t rfl)) ?_)
    refine tl_step rfl (oj_val (y_fieldAddr (td := 3) Try.underlying81 rfl rfl Try.sizeOf3 (o' := 1) rfl (fe_t rfl)) ?_)
    refine tl_step rfl (oj_val (y_ldb 1 Try.isAgg3 (fe_t rfl) rfl rfl) ?_)
    refine tl_step rfl (oj_val (y_mul (fe_t rfl) (fe_t rfl) (by omega)) ?_)
    refine tl_step rfl (oj_val (y_move (fe_t rfl)) ?_)
    refine tl_step rfl (oj_val (y_add (fe_t rfl) (fe_t rfl) (by omega)) ?_)
    refine tl_step rfl (oj_slice1 Try.underlying79 Try.sizeOf3 Try.zeroValue3 (fe_t rfl) (by decide) rfl (fun b2 => ?_))
    refine tl_step rfl (oj_append (i := 1) (s := 1) (z := (.int .i64 0)) (bytes := 8) Try.underlying79 (by kernel_rfl) (fe_t rfl) (fe_t rfl) rfl (rdl_blk 0 rfl) rfl (by decide) (by first | exact oneI | exact oneF (fun _ => rfl) | exact fun u hu => List.all_eq_true.1 (show List.all _ (fun x => x.oneCell') = true from rfl) u hu | (intro u hu; revert u hu; simp [Value.oneCell'])) (by decide) ⟨by omega, by decide⟩ (fun Aa1 ca1 hca1 => ?_))
    refine tl_step rfl (oj_val (y_assign (fe_t rfl)) ?_)
    refine tl_nil ?_
    refine tx_in ?_
    refine tx_then ?_
    refine tr_region ?_
    refine tl_step rfl (oj_val (y_inc (fe_t rfl) fe_c (by omega)) ?_)
    refine tl_step rfl (oj_val (y_move (fe_t rfl)) ?_)
    refine tl_nil ?_
    apply tx_back2 (k + 1) ((⟨_, _, _, _⟩ : Vs))
    · exact (cov_cons (by first | rfl | exact v_int (by omega) | exact v_bool (by simp [*])) (cov_cons (by first | rfl | exact v_int (by omega) | exact v_bool (by simp [*])) (cov_nil)))
    · repeat (first | exact over_nil | refine over_put rfl ?_ | refine over_drop rfl ?_)
    · exact fun w h => h.pick [1, 2] _ rfl (by decide)
    · refine ⟨⟨by omega, by dsimp only; omega, ?_⟩, by omega⟩
      dsimp only
      rw [hx1, spots_succ, cI, cI, List.map_append]
      rfl
  · refine tr_exit ?_
    refine tx_then_exit ?_
    refine tx_then_exit ?_
    refine tx_in_exit ?_
    refine tx_then ?_
    refine tr_seq ?_
    refine tr_region ?_
    refine tl_step rfl (oj_val (y_move (fe_t rfl)) ?_)
    refine tl_step rfl (oj_val (y_assign (fe_t rfl)) ?_)
    refine tl_nil ?_
    refine tx_then ?_
    refine tr_ret ?_
    refine tx_ret (res1 Try.results133 (rok_t rfl)) (fun w' hS => ?_)
    obtain rfl : k = R := by omega
    exact ⟨s1, ⟨hn1, hx1⟩, rfl, hS.pick [0] _ rfl (by decide)⟩

set_option maxRecDepth 100000 in
set_option maxHeartbeats 2000000 in
theorem vcells_ok {width id : Int} (R : Nat) (A : Option Addr) (n c : Nat) (w : World) (hR : R ≤ 8) (w0 : 1 ≤ width) (w1 : width ≤ 64) (i0 : 0 ≤ id) (i1 : id < 18446744073709551616) :
    Calls Try.prog 135 #[.agg #[(.int .i64 ((R : Int))), (.int .i64 width), .slice A n c], .int .u64 id] w fun e w' => ∃ v : Vs, (v.n = R ∧ v.xs = cI (spots width id R)) ∧ e = .returned (.slice v.A v.n v.c) ∧ St w w' [vec 3 1 (.slice v.A v.n v.c) v.n v.xs] := by
  refine calls_tr Try.func135 Try.ntmps135 rfl rfl (St.refl _) ?_
  refine tr_seq ?_
  refine tr_region ?_
  refine tl_step rfl (oj_box (fe_t rfl) (fun b1 => ?_))
  refine tl_step rfl (oj_val (y_assign fe_c) ?_)
  refine tl_nil ?_
  refine tx_then ?_
  refine tr_seq ?_
  refine tr_region ?_
  refine tl_step rfl (oj_val (y_assign fe_c) ?_)
  refine tl_nil ?_
  refine tx_then ?_
  refine tr_seq ?_
  refine tr_seq ?_
  refine tr_region ?_
  refine tl_step rfl (oj_val (y_assign fe_c) ?_)
  refine tl_nil ?_
  refine tx_then ?_
  refine tr_block ?_
  refine tr_add (r := vec 3 1 (.slice none 0 0) 0 []) vec_nil rfl ?_
  refine tr_loop2 [5, 6, 7, 8, 9, 10, 11, 12, 13, 14, 15, 16, 17, 18, 19, 20, 21, 22, 23, 24, 25] (fun (k : Nat) (s1 : Vs) => [(6, .int .i64 (k : Int)), (5, .slice s1.A s1.n s1.c)]) 0 (fun (k : Nat) (s1 : Vs) => [(0, vec 3 1 (.slice s1.A s1.n s1.c) s1.n s1.xs)]) (fun (k : Nat) (s1 : Vs) => k ≤ R ∧ s1.n = k ∧ s1.xs = cI (spots width id k)) (fun (k : Nat) (s1 : Vs) => R - k) (0) (⟨none, 0, 0, []⟩ : Vs) (cov_cons (by first | rfl | exact v_int (by omega) | exact v_bool (by simp [*])) (cov_cons (by first | rfl | exact v_int (by omega) | exact v_bool (by simp [*])) (cov_nil))) (fun w h => h) ?_ ?_
  · try dsimp only
    exact ⟨by omega, rfl, rfl⟩
  intro k s1 hp
  obtain ⟨hk, hn1, hx1⟩ := hp
  refine tr_seq ?_
  refine tr_seq ?_
  refine tr_region ?_
  refine tl_step rfl (oj_val (y_move (fe_t rfl)) ?_)
  refine tl_step rfl (oj_val (y_fieldAddr (td := 3) Try.underlying81 rfl rfl Try.sizeOf3 (o' := 0) rfl (fe_t rfl)) ?_)
  refine tl_step rfl (oj_val (y_ldb 1 Try.isAgg3 (fe_t rfl) rfl rfl) ?_)
  refine tl_step rfl (oj_val (y_lss (fe_t rfl) (fe_t rfl)) ?_)
  refine tl_nil ?_
  refine tx_then ?_
  refine tr_condp (fe_t rfl) (fun hq1 => ?_) (fun hq2 => ?_)
  · refine tr_skip ?_
    refine tx_then ?_
    refine tr_seq ?_
    refine tr_block ?_
    have hsb := spots_bd (id := id) (r := R) (k := k) w0 (by omega)
    have hsk := spot_bd (row := (k : Int)) (width := width) (id := id) w0
    have hmc := Int.mul_comm width (k : Int)
    have hR8 : (R : Int) * width ≤ 8 * 64 := Int.mul_le_mul (by omega) w1 (by omega) (by omega)
    have hk0 : 0 ≤ (k : Int) * width := Int.mul_nonneg (by omega) (by omega)
    refine tb_draw 12 (sel _ [1]) (fun w h => h.sel _ rfl (by decide)) rfl ?_
    refine tb_float (i := 0) rfl (by kernel_rfl) rfl (wants_none rfl) (yq_of (y_move (fe_t rfl))) ?_
    refine tb_float (i := 1) rfl (by kernel_rfl) rfl (wants_none rfl) (yq_of (y_fieldAddr (td := 3) Try.underlying81 rfl rfl Try.sizeOf3 (o' := 1) rfl (fe_t rfl))) ?_
    refine tb_float (i := 2) rfl (by kernel_rfl) rfl (wants_none rfl) (yq_of (y_ldb 0 Try.isAgg3 (fe_t rfl) rfl rfl)) ?_
    refine tb_float (i := 3) rfl (by kernel_rfl) rfl (wants_none rfl) (yq_of (y_move (fe_t rfl))) ?_
    refine tb_float (i := 4) rfl (by kernel_rfl) rfl (wants_none rfl) (yq_of (y_mul (fe_t rfl) (fe_t rfl) (by omega))) ?_
    refine tb_float (i := 5) rfl (by kernel_rfl) rfl (wants_none rfl) (yq_of (y_move (fe_t rfl))) ?_
    refine tb_float (i := 6) rfl (by kernel_rfl) rfl (wants_none rfl) (yq_of (y_fieldAddr (td := 3) Try.underlying81 rfl rfl Try.sizeOf3 (o' := 1) rfl (fe_t rfl))) ?_
    refine tb_float (i := 7) rfl (by kernel_rfl) rfl (wants_none rfl) (yq_of (y_ldb 0 Try.isAgg3 (fe_t rfl) rfl rfl)) ?_
    refine tb_float (i := 8) rfl (by kernel_rfl) rfl (wants_none rfl) (yq_of (y_move (fe_t rfl))) ?_
    refine tb_float (i := 9) rfl (by kernel_rfl) rfl (wants_none rfl) (yq_call Try.call62 fe_f (fel_cons (fe_t rfl) (fel_cons (fe_t rfl) (fel_cons (fe_t rfl) fel_nil))) (fun w' hS => vplace_ok w' (by omega) (by omega) w0 w1 i0 i1)) ?_
    refine tb_float (i := 10) rfl (by kernel_rfl) rfl (wants_none rfl) (yq_of (y_add (fe_t rfl) (fe_t rfl) (by omega))) ?_
    refine tb_one1 (i := 11) rfl (by kernel_rfl) (by kernel_rfl) (wants_none rfl) (oj_slice1 Try.underlying79 Try.sizeOf3 Try.zeroValue3 (fe_t rfl) (by decide) rfl (fun b2 => ⟨fun w h => h.pick [1, 2] _ rfl (by decide), ?_⟩))
    refine tb_one2 (i := 12) rfl (by kernel_rfl) (by kernel_rfl) (wants_none rfl) (oj_append (i := 1) (s := 1) (z := (.int .i64 0)) (bytes := 8) Try.underlying79 (by kernel_rfl) (fe_t rfl) (fe_t rfl) rfl (rdl_blk 0 rfl) rfl (by decide) (by first | exact oneI | exact oneF (fun _ => rfl) | exact fun u hu => List.all_eq_true.1 (show List.all _ (fun x => x.oneCell') = true from rfl) u hu | (intro u hu; revert u hu; simp [Value.oneCell'])) (by decide) ⟨by omega, by decide⟩ (fun Aa1 ca1 hca1 => ⟨fun w h => h.pick [2] _ rfl (by decide), ?_⟩))
    refine tb_float (i := 13) rfl (by kernel_rfl) rfl (wants_none rfl) (yq_of (y_assign (fe_t rfl))) ?_
    refine tb_done (by kernel_rfl) ?_
    refine tx_in ?_
    refine tx_then ?_
    refine tr_region ?_
    refine tl_step rfl (oj_val (y_move (fe_t rfl)) ?_)
    refine tl_step rfl (oj_val (y_inc (fe_t rfl) fe_c (by omega)) ?_)
    refine tl_step rfl (oj_val (y_assign (fe_t rfl)) ?_)
    refine tl_nil ?_
    apply tx_back2 (k + 1) ((⟨_, _, _, _⟩ : Vs))
    · exact (cov_cons (by first | rfl | exact v_int (by omega) | exact v_bool (by simp [*])) (cov_cons (by first | rfl | exact v_int (by omega) | exact v_bool (by simp [*])) (cov_nil)))
    · repeat (first | exact over_nil | refine over_put rfl ?_ | refine over_drop rfl ?_)
    · exact fun w h => h.pick [1, 2] _ rfl (by decide)
    · refine ⟨⟨by omega, by dsimp only; omega, ?_⟩, by omega⟩
      dsimp only
      rw [hx1, spots_succ, cI, cI, List.map_append, Int.mul_comm]
      rfl
  · refine tr_exit ?_
    refine tx_then_exit ?_
    refine tx_then_exit ?_
    refine tx_in_exit ?_
    refine tx_then ?_
    refine tr_seq ?_
    refine tr_region ?_
    refine tl_step rfl (oj_val (y_move (fe_t rfl)) ?_)
    refine tl_step rfl (oj_val (y_assign (fe_t rfl)) ?_)
    refine tl_nil ?_
    refine tx_then ?_
    refine tr_ret ?_
    refine tx_ret (res1 Try.results135 (rok_t rfl)) (fun w' hS => ?_)
    obtain rfl : k = R := by omega
    exact ⟨s1, ⟨hn1, hx1⟩, rfl, hS.pick [0] _ rfl (by decide)⟩

set_option maxRecDepth 100000 in
set_option maxHeartbeats 2000000 in
theorem count_ok {width id : Int} (R : Nat) (A : Option Addr) (n c : Nat) (zs : List Int) (w : World) (hr : Rd w A (zs.map (.int .i64))) (hn : zs.length = n) (va : Sketch.vright (R : Int) width zs = true) (i0 : 0 ≤ id) (i1 : id < 18446744073709551616) :
    Calls Try.prog 59 #[.agg #[(.int .i64 ((R : Int))), (.int .i64 width), .slice A n c], .int .u64 id] w fun e w' => e = .returned (.tuple #[(.int .i64 (least zs width id R)), (.int .i64 0)]) ∧ St w w' [] := by
  obtain ⟨⟨d0, d1⟩, ⟨w0, w1⟩, hln⟩ := vright_facts va
  have hR8 : (R : Int) * width ≤ 8 * 64 := Int.mul_le_mul (by omega) w1 (by omega) (by omega)
  refine calls_tr Try.func59 Try.ntmps59 rfl rfl (St.refl _) ?_
  refine tr_seq ?_
  refine tr_region ?_
  refine tl_step rfl (oj_box (fe_t rfl) (fun b1 => ?_))
  refine tl_step rfl (oj_val (y_assign fe_c) ?_)
  refine tl_step rfl (oj_val (y_assign fe_c) ?_)
  refine tl_nil ?_
  refine tx_then ?_
  refine tr_seq ?_
  refine tr_seq ?_
  refine tr_region ?_
  refine tl_step rfl (oj_val (y_ldbA 0 Try.isAgg81 Try.sizeOf81 (fe_t rfl) rfl rfl rfl) ?_)
  refine tl_step rfl (oj_callv Try.call63 fe_f (fel_cons (fe_t rfl) fel_nil) (fun w' hS => of_bel (Sketch.right_yes A n c w' (Rd.below hr hS.below) hn (by omega) va)) ?_)
  refine tl_step rfl (oj_val (y_not (fe_t rfl)) ?_)
  refine tl_nil ?_
  refine tx_then ?_
  refine tr_condf (fe_t rfl) ?_
  refine tr_skip ?_
  refine tx_then ?_
  refine tr_seq ?_
  refine tr_region ?_
  refine tl_step rfl (oj_val (y_assign fe_c) ?_)
  refine tl_nil ?_
  refine tx_then ?_
  refine tr_seq ?_
  refine tr_seq ?_
  refine tr_region ?_
  refine tl_step rfl (oj_val (y_ldbA 0 Try.isAgg81 Try.sizeOf81 (fe_t rfl) rfl rfl rfl) ?_)
  refine tl_step rfl (oj_val (y_move (fe_t rfl)) ?_)
  refine tl_step rfl (oj_call Try.call133 fe_f (fel_cons (fe_t rfl) (fel_cons (fe_t rfl) fel_nil)) (fun w' hS => cells_ok R A n c w' (by omega) w0 w1 i0 i1) (fun v hq => ?_))
  refine tl_step rfl (oj_val (y_len Try.underlying79 (fe_t rfl)) ?_)
  refine tl_step rfl (oj_val (y_move fe_c) ?_)
  refine tl_nil ?_
  refine tx_then ?_
  refine tr_block ?_
  refine tr_loop2 [6, 8, 16, 17, 18, 19, 20, 21, 22, 23, 24, 25, 26, 27, 28, 29, 30, 31, 32, 33, 34, 35, 36] (fun (k : Nat) (b : Int) => [(16, .int .i64 (k : Int)), (6, .int .i64 b)]) 0 (fun (k : Nat) (b : Int) => []) (fun (k : Nat) (b : Int) => k ≤ R ∧ ((k = 0 ∧ b = -1) ∨ (0 < k ∧ b = least zs width id k))) (fun (k : Nat) (b : Int) => R - k) (0) (-1) (cov_cons (by first | rfl | exact v_int (by omega) | exact v_bool (by simp [*])) (cov_cons (by first | rfl | exact v_int (by omega) | exact v_bool (by simp [*])) (cov_nil))) (fun w h => h) ?_ ?_
  · try dsimp only
    exact ⟨by omega, .inl ⟨rfl, rfl⟩⟩
  intro k b hp
  obtain ⟨hk, hb⟩ := hp
  have hlb := least_bd (id := id) va k (by omega)
  refine tr_seq ?_
  refine tr_region ?_
  refine tl_step rfl (oj_val (y_lss (fe_t rfl) (fe_t rfl)) ?_)
  refine tl_nil ?_
  refine tx_then ?_
  refine tr_seq ?_
  refine tr_condp (fe_t rfl) (fun hq1 => ?_) (fun hq2 => ?_)
  · refine tr_skip ?_
    refine tx_then ?_
    refine tr_seq ?_
    refine tr_block ?_
    refine tr_seq ?_
    have hsb := spots_bd (id := id) (r := R) (k := k) w0 (by omega)
    have hzb := good_getD va ((k : Int) * width + spot k width id).toNat (by omega)
    refine tr_region ?_
    refine tl_step rfl (oj_val (y_index Try.underlying79 Try.sizeOf3 (fe_t rfl) (fe_t rfl) (rdl_vec 0 rfl) (by rw [hq.2, cI, List.length_map, spots_len]; omega) (by decide) (by omega) (Nat.mul_one _)) ?_)
    refine tl_step rfl (oj_val (y_ld (v := .int .i64 ((k : Int) * width + spot k width id)) Try.isAgg3 (fe_t rfl) (rdl_vec 0 rfl) (by rw [hq.2]; exact cI_spots (by omega))) ?_)
    refine tl_step rfl (oj_val (y_assign (fe_t rfl)) ?_)
    refine tl_nil ?_
    refine tx_then ?_
    refine tr_seq ?_
    refine tr_region ?_
    refine tl_step rfl (oj_val (y_move (fe_t rfl)) ?_)
    refine tl_step rfl (oj_val (y_lss (fe_t rfl) fe_c) ?_)
    refine tl_step rfl (oj_val (y_move (fe_t rfl)) ?_)
    refine tl_splitp (d := 22) rfl (fun hq3 => ?_) (fun hq4 => ?_)
    · refine tl_skip rfl rfl rfl rfl ?_
      refine tl_skip rfl rfl rfl rfl ?_
      refine tl_skip rfl rfl rfl rfl ?_
      refine tl_skip rfl rfl rfl rfl ?_
      refine tl_skip rfl rfl rfl rfl ?_
      refine tl_skip rfl rfl rfl rfl ?_
      refine tl_skip rfl rfl rfl rfl ?_
      refine tl_step rfl (oj_val (y_pickt (fe_t rfl) fe_c) ?_)
      refine tl_nil ?_
      refine tx_then ?_
      refine tr_condt (fe_t rfl) ?_
      refine tr_region ?_
      refine tl_step rfl (oj_val (y_fieldAddr (td := 79) Try.underlying81 rfl rfl Try.sizeOf79 (o' := 2) rfl (fe_t rfl)) ?_)
      refine tl_step rfl (oj_val (y_ldb 1 Try.isAgg79 (fe_t rfl) rfl rfl) ?_)
      refine tl_step rfl (oj_val (y_move (fe_t rfl)) ?_)
      refine tl_step rfl (oj_val (y_indexI Try.underlying79 Try.sizeOf3 (fe_t rfl) (fe_t rfl) (rdl_out hr) (by simp; omega) (by decide) (by omega) (by omega) (Nat.mul_one _)) ?_)
      refine tl_step rfl (oj_val (y_ld Try.isAgg3 (fe_t rfl) (rdl_out hr) (getDI (by omega))) ?_)
      refine tl_step rfl (oj_val (y_assign (fe_t rfl)) ?_)
      refine tl_nil ?_
      refine tx_in ?_
      refine tx_then ?_
      refine tr_region ?_
      refine tl_step rfl (oj_val (y_inc (fe_t rfl) fe_c (by omega)) ?_)
      refine tl_step rfl (oj_val (y_move (fe_t rfl)) ?_)
      refine tl_nil ?_
      apply tx_back2 (k + 1) (zs.getD ((k : Int) * width + spot k width id).toNat 0)
      · exact (cov_cons (by first | rfl | exact v_int (by omega) | exact v_bool (by simp [*])) (cov_cons (by first | rfl | exact v_int (by omega) | exact v_bool (by simp [*])) (cov_nil)))
      · repeat (first | exact over_nil | refine over_put rfl ?_ | refine over_drop rfl ?_)
      · exact fun w h => h.pick [0, 1] _ rfl (by decide)
      · have hls := least_succ zs width id k
        rcases hb with ⟨rfl, rfl⟩ | ⟨h0, rfl⟩
        · have h00 : least zs width id 0 = 2199023255552 := rfl
          first | exact ⟨⟨by omega, .inr ⟨by omega, by omega⟩⟩, by omega⟩ | (exfalso; omega)
        · first | exact ⟨⟨by omega, .inr ⟨by omega, by omega⟩⟩, by omega⟩ | (exfalso; omega)
    · refine tl_want rfl rfl rfl (oj_val (y_fieldAddr (td := 79) Try.underlying81 rfl rfl Try.sizeOf79 (o' := 2) rfl (fe_t rfl)) ?_)
      refine tl_want rfl rfl rfl (oj_val (y_ldb 1 Try.isAgg79 (fe_t rfl) rfl rfl) ?_)
      refine tl_want rfl rfl rfl (oj_val (y_move (fe_t rfl)) ?_)
      refine tl_want rfl rfl rfl (oj_val (y_indexI Try.underlying79 Try.sizeOf3 (fe_t rfl) (fe_t rfl) (rdl_out hr) (by simp; omega) (by decide) (by omega) (by omega) (Nat.mul_one _)) ?_)
      refine tl_want rfl rfl rfl (oj_val (y_ld Try.isAgg3 (fe_t rfl) (rdl_out hr) (getDI (by omega))) ?_)
      refine tl_want rfl rfl rfl (oj_val (y_move (fe_t rfl)) ?_)
      refine tl_want rfl rfl rfl (oj_val (y_lss (fe_t rfl) (fe_t rfl)) ?_)
      refine tl_step rfl (oj_val (y_pickf (fe_t rfl) (fe_t rfl)) ?_)
      refine tl_nil ?_
      refine tx_then ?_
      refine tr_condp (fe_t rfl) (fun hq5 => ?_) (fun hq6 => ?_)
      · refine tr_region ?_
        refine tl_step rfl (oj_val (y_fieldAddr (td := 79) Try.underlying81 rfl rfl Try.sizeOf79 (o' := 2) rfl (fe_t rfl)) ?_)
        refine tl_step rfl (oj_val (y_ldb 1 Try.isAgg79 (fe_t rfl) rfl rfl) ?_)
        refine tl_step rfl (oj_val (y_move (fe_t rfl)) ?_)
        refine tl_step rfl (oj_val (y_indexI Try.underlying79 Try.sizeOf3 (fe_t rfl) (fe_t rfl) (rdl_out hr) (by simp; omega) (by decide) (by omega) (by omega) (Nat.mul_one _)) ?_)
        refine tl_step rfl (oj_val (y_ld Try.isAgg3 (fe_t rfl) (rdl_out hr) (getDI (by omega))) ?_)
        refine tl_step rfl (oj_val (y_assign (fe_t rfl)) ?_)
        refine tl_nil ?_
        refine tx_in ?_
        refine tx_then ?_
        refine tr_region ?_
        refine tl_step rfl (oj_val (y_inc (fe_t rfl) fe_c (by omega)) ?_)
        refine tl_step rfl (oj_val (y_move (fe_t rfl)) ?_)
        refine tl_nil ?_
        apply tx_back2 (k + 1) (zs.getD ((k : Int) * width + spot k width id).toNat 0)
        · exact (cov_cons (by first | rfl | exact v_int (by omega) | exact v_bool (by simp [*])) (cov_cons (by first | rfl | exact v_int (by omega) | exact v_bool (by simp [*])) (cov_nil)))
        · repeat (first | exact over_nil | refine over_put rfl ?_ | refine over_drop rfl ?_)
        · exact fun w h => h.pick [0, 1] _ rfl (by decide)
        · have hls := least_succ zs width id k
          rcases hb with ⟨rfl, rfl⟩ | ⟨h0, rfl⟩
          · have h00 : least zs width id 0 = 2199023255552 := rfl
            first | exact ⟨⟨by omega, .inr ⟨by omega, by omega⟩⟩, by omega⟩ | (exfalso; omega)
          · first | exact ⟨⟨by omega, .inr ⟨by omega, by omega⟩⟩, by omega⟩ | (exfalso; omega)
      · refine tr_skip ?_
        refine tx_in ?_
        refine tx_then ?_
        refine tr_region ?_
        refine tl_step rfl (oj_val (y_inc (fe_t rfl) fe_c (by omega)) ?_)
        refine tl_step rfl (oj_val (y_move (fe_t rfl)) ?_)
        refine tl_nil ?_
        apply tx_back2 (k + 1) (b)
        · exact (cov_cons (by first | rfl | exact v_int (by omega) | exact v_bool (by simp [*])) (cov_cons (by first | rfl | exact v_int (by omega) | exact v_bool (by simp [*])) (cov_nil)))
        · repeat (first | exact over_nil | refine over_put rfl ?_ | refine over_drop rfl ?_)
        · exact fun w h => h.pick [0, 1] _ rfl (by decide)
        · have hls := least_succ zs width id k
          rcases hb with ⟨rfl, rfl⟩ | ⟨h0, rfl⟩
          · have h00 : least zs width id 0 = 2199023255552 := rfl
            first | exact ⟨⟨by omega, .inr ⟨by omega, by omega⟩⟩, by omega⟩ | (exfalso; omega)
          · first | exact ⟨⟨by omega, .inr ⟨by omega, by omega⟩⟩, by omega⟩ | (exfalso; omega)
  · refine tr_exit ?_
    refine tx_then_exit ?_
    refine tx_then_exit ?_
    refine tx_in_exit ?_
    refine tx_then ?_
    refine tr_seq ?_
    refine tr_region ?_
    refine tl_step rfl (oj_val (y_move (fe_t rfl)) ?_)
    refine tl_step rfl (oj_val (y_assign (fe_t rfl)) ?_)
    refine tl_step rfl (oj_val (y_assign fe_c) ?_)
    refine tl_nil ?_
    refine tx_then ?_
    refine tr_ret ?_
    refine tx_ret (res2 Try.results59 (rok_t rfl) (rok_t rfl)) (fun w' hS => ?_)
    obtain rfl : k = R := by omega
    obtain rfl : b = least zs width id k := by omega
    exact ⟨rfl, hS.pick [] _ rfl (by decide)⟩

set_option maxRecDepth 100000 in
set_option maxHeartbeats 2000000 in
theorem vcount_ok {width id : Int} (R : Nat) (A : Option Addr) (n c : Nat) (zs : List Int) (w : World) (hr : Rd w A (zs.map (.int .i64))) (hn : zs.length = n) (va : Sketch.vright (R : Int) width zs = true) (i0 : 0 ≤ id) (i1 : id < 18446744073709551616) :
    Calls Try.prog 66 #[.agg #[(.int .i64 ((R : Int))), (.int .i64 width), .slice A n c], .int .u64 id] w fun e w' => e = .returned ((.int .i64 (least zs width id R))) ∧ St w w' [] := by
  obtain ⟨⟨d0, d1⟩, ⟨w0, w1⟩, hln⟩ := vright_facts va
  have hR8 : (R : Int) * width ≤ 8 * 64 := Int.mul_le_mul (by omega) w1 (by omega) (by omega)
  refine calls_tr Try.func66 Try.ntmps66 rfl rfl (St.refl _) ?_
  refine tr_seq ?_
  refine tr_region ?_
  refine tl_step rfl (oj_box (fe_t rfl) (fun b1 => ?_))
  refine tl_step rfl (oj_val (y_assign fe_c) ?_)
  refine tl_nil ?_
  refine tx_then ?_
  refine tr_seq ?_
  refine tr_region ?_
  refine tl_step rfl (oj_val (y_assign fe_c) ?_)
  refine tl_nil ?_
  refine tx_then ?_
  refine tr_seq ?_
  refine tr_seq ?_
  refine tr_region ?_
  refine tl_step rfl (oj_val (y_ldbA 0 Try.isAgg81 Try.sizeOf81 (fe_t rfl) rfl rfl rfl) ?_)
  refine tl_step rfl (oj_val (y_move (fe_t rfl)) ?_)
  refine tl_step rfl (oj_call Try.call135 fe_f (fel_cons (fe_t rfl) (fel_cons (fe_t rfl) fel_nil)) (fun w' hS => vcells_ok R A n c w' (by omega) w0 w1 i0 i1) (fun v hq => ?_))
  refine tl_step rfl (oj_val (y_len Try.underlying79 (fe_t rfl)) ?_)
  refine tl_step rfl (oj_val (y_move fe_c) ?_)
  refine tl_nil ?_
  refine tx_then ?_
  refine tr_block ?_
  refine tr_loop1 [5, 7, 12, 13, 14, 15, 16, 17, 18, 19, 20, 21, 22, 23] (fun (k : Nat) => [(12, .int .i64 (k : Int)), (5, .int .i64 (least zs width id k))]) 0 (fun (k : Nat) => []) (fun (k : Nat) => k ≤ R) (fun (k : Nat) => R - k) (0) (cov_cons (by first | rfl | exact v_int (by omega) | exact v_bool (by simp [*])) (cov_cons (by first | rfl | exact v_int (by omega) | exact v_bool (by simp [*])) (cov_nil))) (fun w h => h) ?_ ?_
  · try dsimp only
    exact Nat.zero_le _
  intro k hp
  have hk := hp
  refine tr_seq ?_
  refine tr_region ?_
  refine tl_step rfl (oj_val (y_lss (fe_t rfl) (fe_t rfl)) ?_)
  refine tl_nil ?_
  refine tx_then ?_
  refine tr_seq ?_
  refine tr_condp (fe_t rfl) (fun hq1 => ?_) (fun hq2 => ?_)
  · refine tr_skip ?_
    refine tx_then ?_
    refine tr_seq ?_
    refine tr_block ?_
    refine tr_seq ?_
    have hsb := spots_bd (id := id) (r := R) (k := k) w0 (by omega)
    have hzb := good_getD va ((k : Int) * width + spot k width id).toNat (by omega)
    refine tr_region ?_
    refine tl_step rfl (oj_val (y_index Try.underlying79 Try.sizeOf3 (fe_t rfl) (fe_t rfl) (rdl_vec 0 rfl) (by rw [hq.2, cI, List.length_map, spots_len]; omega) (by decide) (by omega) (Nat.mul_one _)) ?_)
    refine tl_step rfl (oj_val (y_ld (v := .int .i64 ((k : Int) * width + spot k width id)) Try.isAgg3 (fe_t rfl) (rdl_vec 0 rfl) (by rw [hq.2]; exact cI_spots (by omega))) ?_)
    refine tl_step rfl (oj_val (y_assign (fe_t rfl)) ?_)
    refine tl_nil ?_
    refine tx_then ?_
    refine tr_region ?_
    refine tl_step rfl (oj_val (y_move (fe_t rfl)) ?_)
    refine tl_step rfl (oj_val (y_fieldAddr (td := 79) Try.underlying81 rfl rfl Try.sizeOf79 (o' := 2) rfl (fe_t rfl)) ?_)
    refine tl_step rfl (oj_val (y_ldb 1 Try.isAgg79 (fe_t rfl) rfl rfl) ?_)
    refine tl_step rfl (oj_val (y_move (fe_t rfl)) ?_)
    refine tl_step rfl (oj_val (y_indexI Try.underlying79 Try.sizeOf3 (fe_t rfl) (fe_t rfl) (rdl_out hr) (by simp; omega) (by decide) (by omega) (by omega) (Nat.mul_one _)) ?_)
    refine tl_step rfl (oj_val (y_ld Try.isAgg3 (fe_t rfl) (rdl_out hr) (getDI (by omega))) ?_)
    refine tl_step rfl (oj_val (y_as (y_min (fe_t rfl) (fe_t rfl)) (least_succ zs width id k).symm) ?_)
    refine tl_step rfl (oj_val (y_assign (fe_t rfl)) ?_)
    refine tl_nil ?_
    refine tx_in ?_
    refine tx_then ?_
    refine tr_region ?_
    refine tl_step rfl (oj_val (y_inc (fe_t rfl) fe_c (by omega)) ?_)
    refine tl_step rfl (oj_val (y_move (fe_t rfl)) ?_)
    refine tl_nil ?_
    apply tx_back1 (k + 1)
    · exact (cov_cons (by first | rfl | exact v_int (by omega) | exact v_bool (by simp [*])) (cov_cons (by first | rfl | exact v_int (by omega) | exact v_bool (by simp [*])) (cov_nil)))
    · repeat (first | exact over_nil | refine over_put rfl ?_ | refine over_drop rfl ?_)
    · exact fun w h => h.pick [0, 1] _ rfl (by decide)
    · exact ⟨by omega, by omega⟩
  · refine tr_exit ?_
    refine tx_then_exit ?_
    refine tx_then_exit ?_
    refine tx_in_exit ?_
    refine tx_then ?_
    refine tr_seq ?_
    refine tr_region ?_
    refine tl_step rfl (oj_val (y_move (fe_t rfl)) ?_)
    refine tl_step rfl (oj_val (y_assign (fe_t rfl)) ?_)
    refine tl_nil ?_
    refine tx_then ?_
    refine tr_ret ?_
    refine tx_ret (res1 Try.results66 (rok_t rfl)) (fun w' hS => ?_)
    obtain rfl : k = R := by omega
    exact ⟨rfl, hS.pick [] _ rfl (by decide)⟩

set_option maxRecDepth 100000 in
theorem count_bad {r width id : Int} (A : Option Addr) (n c : Nat) (zs : List Int) (w : World) (hr : Rd w A (zs.map (.int .i64))) (hn : zs.length = n) (va : Sketch.vright r width zs = false) (ln : n ≤ 140737488355328) :
    Calls Try.prog 59 #[.agg #[(.int .i64 r), (.int .i64 width), .slice A n c], .int .u64 id] w fun e w' => e = .returned (.tuple #[(.int .i64 0), (.int .i64 1)]) ∧ St w w' [] := by
  refine calls_tr Try.func59 Try.ntmps59 rfl rfl (St.refl _) ?_
  refine tr_seq ?_
  refine tr_region ?_
  refine tl_step rfl (oj_box (fe_t rfl) (fun b1 => ?_))
  refine tl_step rfl (oj_val (y_assign fe_c) ?_)
  refine tl_step rfl (oj_val (y_assign fe_c) ?_)
  refine tl_nil ?_
  refine tx_then ?_
  refine tr_seq ?_
  refine tr_seq ?_
  refine tr_region ?_
  refine tl_step rfl (oj_val (y_ldbA 0 Try.isAgg81 Try.sizeOf81 (fe_t rfl) rfl rfl rfl) ?_)
  refine tl_step rfl (oj_callv Try.call63 fe_f (fel_cons (fe_t rfl) fel_nil) (fun w' hS => of_bel (Sketch.right_no A n c w' (Rd.below hr hS.below) hn (by omega) va)) ?_)
  refine tl_step rfl (oj_val (y_not (fe_t rfl)) ?_)
  refine tl_nil ?_
  refine tx_then ?_
  refine tr_condt (fe_t rfl) ?_
  refine tr_seq ?_
  refine tr_region ?_
  refine tl_step rfl (oj_val (y_assign fe_c) ?_)
  refine tl_step rfl (oj_val (y_assign fe_c) ?_)
  refine tl_nil ?_
  refine tx_then ?_
  refine tr_ret ?_
  refine tx_then_ret ?_
  refine tx_ret (res2 Try.results59 (rok_t rfl) (rok_t rfl)) (fun w' hS => ?_)
  exact ⟨rfl, hS.pick [] _ rfl (by decide)⟩

end Go.Proofs.Ytcpdelkamckmfaa.Frac
