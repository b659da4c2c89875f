/- The Int library, numbers held together: Mul. -/
import Derived.Test.YtcpdelkamckmfaaBD
import Derived.Test.YtcpdelkamckmfaaBigF
namespace Go.Proofs.Ytcpdelkamckmfaa.Big
open Go.RowKit Go.Proofs.Ytcpdelkamckmfaa.E

set_option maxRecDepth 100000 in
set_option maxHeartbeats 2000000 in
theorem mulB {w0 w : World} {T : List Res} {H D : List Nat} {l : List Ent} {b o : Nat} {q : Nm} (hS : St w0 w (bag H D (⟨b, o, q⟩ :: l) :: T)) {b_x o_x : Nat} {x : Nm} {zx : Int} (mx : (⟨b_x, o_x, x⟩ : Ent) ∈ (⟨b, o, q⟩ : Ent) :: l) {b_y o_y : Nat} {y : Nm} {zy : Int} (my : (⟨b_y, o_y, y⟩ : Ent) ∈ (⟨b, o, q⟩ : Ent) :: l) (hx : x.is zx) (hy : y.is zy) (lx : x.n ≤ 100000) (ly : y.n ≤ 100000) :
    Calls Try.prog 46 #[.pointer (some ⟨b, o, none⟩), .pointer (some ⟨b_x, o_x, none⟩), .pointer (some ⟨b_y, o_y, none⟩)] w fun e w' => ∃ r : B1, r.q.is (zx * zy) ∧ e = .returned (.pointer (some ⟨b, o, none⟩)) ∧ St w0 w' (bag r.H r.D (⟨b, o, r.q⟩ :: l) :: T) := by
  have lx1 := hx.len
  have ly1 := hy.len
  refine calls_tr Try.func46 Try.ntmps46 rfl rfl hS ?_
  refine tr_seq ?_
  refine tr_region ?_
  refine tl_step rfl (oj_val (y_assign fe_c) ?_)
  refine tl_nil ?_
  refine tx_then ?_
  refine tr_seq ?_
  refine tb_draw 13 (sel _ [0]) (fun w h => h.sel _ rfl (by decide)) rfl ?_
  refine tb_float (i := 0) rfl (by kernel_rfl) rfl (wants_none rfl) (yq_of (y_move (fe_t rfl))) ?_
  refine tb_float (i := 1) rfl (by kernel_rfl) rfl (wants_none rfl) (yq_of (y_nilCheck (fe_t rfl))) ?_
  refine tb_float (i := 2) rfl (by kernel_rfl) rfl (wants_none rfl) (yq_of (y_fieldAddr (td := 33) Try.underlying35 rfl rfl Try.sizeOf33 (o' := o_x + 1) rfl (fe_t rfl))) ?_
  refine tb_float (i := 3) rfl (by kernel_rfl) rfl (wants_none rfl) (yq_of (y_ldN2 0 Try.isAgg33 (fe_t rfl) rfl mx)) ?_
  refine tb_float (i := 4) rfl (by kernel_rfl) rfl (wants_none rfl) (yq_of (y_len Try.underlying33 (fe_t rfl))) ?_
  refine tb_float (i := 5) rfl (by kernel_rfl) rfl (wants_none rfl) (yq_of (y_move (fe_t rfl))) ?_
  refine tb_float (i := 6) rfl (by kernel_rfl) rfl (wants_none rfl) (yq_of (y_nilCheck (fe_t rfl))) ?_
  refine tb_float (i := 7) rfl (by kernel_rfl) rfl (wants_none rfl) (yq_of (y_fieldAddr (td := 33) Try.underlying35 rfl rfl Try.sizeOf33 (o' := o_y + 1) rfl (fe_t rfl))) ?_
  refine tb_float (i := 8) rfl (by kernel_rfl) rfl (wants_none rfl) (yq_of (y_ldN2 0 Try.isAgg33 (fe_t rfl) rfl my)) ?_
  refine tb_float (i := 9) rfl (by kernel_rfl) rfl (wants_none rfl) (yq_of (y_len Try.underlying33 (fe_t rfl))) ?_
  refine tb_float (i := 10) rfl (by kernel_rfl) rfl (wants_none rfl) (yq_of (y_as (b := ((x.n + y.n : Nat) : Int)) (y_add (fe_t rfl) (fe_t rfl) (by omega)) (by omega))) ?_
  refine tb_one2 (i := 11) rfl (by kernel_rfl) (by kernel_rfl) (wants_none rfl) (oj_make (n := x.n + y.n) (z := (.int .u32 0)) (bytes := 4) Try.underlying33 (by kernel_rfl) (fe_t rfl) (fe_t rfl) rfl ⟨by omega, by decide⟩ (fun g => ⟨fun w h => h.pick [1] _ rfl (by decide), ?_⟩))
  refine tb_float (i := 12) rfl (by kernel_rfl) rfl (wants_none rfl) (yq_of (y_assign (fe_t rfl))) ?_
  refine tb_done (by kernel_rfl) ?_
  refine tx_then ?_
  refine tr_seq ?_
  refine tr_seq ?_
  refine tr_region ?_
  refine tl_step rfl (oj_val (y_move (fe_t rfl)) ?_)
  refine tl_step rfl (oj_val (y_nilCheck (fe_t rfl)) ?_)
  refine tl_step rfl (oj_val (y_fieldAddr (td := 33) Try.underlying35 rfl rfl Try.sizeOf33 (o' := o_x + 1) rfl (fe_t rfl)) ?_)
  refine tl_step rfl (oj_val (y_ldN2 1 Try.isAgg33 (fe_t rfl) rfl mx) ?_)
  refine tl_step rfl (oj_val (y_len Try.underlying33 (fe_t rfl)) ?_)
  refine tl_step rfl (oj_val (y_move fe_c) ?_)
  refine tl_nil ?_
  refine tx_then ?_
  refine tr_block ?_
  refine tr_loop3 [8, 9, 10, 11, 12, 30, 31, 32, 33, 34, 35, 36, 37, 38, 39, 40, 41, 42, 43, 44, 45, 46, 47, 48, 49, 50, 51, 52, 53, 54, 55, 56, 57, 58, 59, 60, 61, 62, 63, 64, 65, 66, 67, 68, 69, 70, 71, 72, 73, 74, 75, 76, 77, 78, 79, 80, 81] (fun (i : Nat) (zs : List Int) (vx : List Value) => [(30, .int .i64 (i : Int))]) 0 (fun (i : Nat) (zs : List Int) (vx : List Value) => [(0, vec 153 1 (.slice (some ⟨g, 0, none⟩) (x.n + y.n) (x.n + y.n)) (x.n + y.n) vx)]) (fun (i : Nat) (zs : List Int) (vx : List Value) => i ≤ x.n ∧ vx = cU zs ∧ MulInv x.ds y.ds zs i 0 0) (fun (i : Nat) (zs : List Int) (vx : List Value) => x.n - i) (0) (List.replicate (x.ds.length + y.ds.length) 0) (List.replicate (x.n + y.n) (.int .u32 0)) (cov_cons (by first | rfl | exact v_int (by omega) | exact v_bool (by simp [*])) (cov_nil)) (fun w h => h) ?_ ?_
  · try dsimp only
    exact ⟨by omega, by simp [cU, lx1, ly1], mul_start _ _⟩
  intro i zs vx hp
  obtain ⟨hi, hvx, hmi⟩ := hp
  have hzl := hmi.2.2.1
  refine tr_seq ?_
  refine tr_region ?_
  refine tl_step rfl (oj_val (y_lss (fe_t rfl) (fe_t rfl)) ?_)
  refine tl_nil ?_
  refine tx_then ?_
  refine tr_seq ?_
  refine tr_condp (fe_t rfl) (fun hq1 => ?_) (fun hq2 => ?_)
  · refine tr_skip ?_
    refine tx_then ?_
    refine tr_seq ?_
    refine tr_block ?_
    refine tr_seq ?_
    refine tr_region ?_
    refine tl_step rfl (oj_val (y_move (fe_t rfl)) ?_)
    refine tl_step rfl (oj_val (y_index Try.underlying33 Try.sizeOf153 (fe_t rfl) (fe_t rfl) (rdl_bag 1 rfl mx) (by rw [cU_len, hx.len, Nat.mul_one]) (by decide) (by omega) (Nat.mul_one _)) ?_)
    refine tl_step rfl (oj_val (y_ld (v := .int .u32 (x.ds[i]'(by omega))) Try.isAgg153 (fe_t rfl) (rdl_bag 1 rfl mx) (cU_get (by omega))) ?_)
    refine tl_step rfl (oj_val (y_assign (fe_t rfl)) ?_)
    refine tl_step rfl (oj_val (y_assign (fe_t rfl)) ?_)
    refine tl_nil ?_
    refine tx_then ?_
    refine tr_seq ?_
    refine tr_region ?_
    refine tl_step rfl (oj_val (y_assign fe_c) ?_)
    refine tl_nil ?_
    refine tx_then ?_
    refine tr_seq ?_
    refine tr_seq ?_
    refine tr_region ?_
    refine tl_step rfl (oj_val (y_move (fe_t rfl)) ?_)
    refine tl_step rfl (oj_val (y_nilCheck (fe_t rfl)) ?_)
    refine tl_step rfl (oj_val (y_fieldAddr (td := 33) Try.underlying35 rfl rfl Try.sizeOf33 (o' := o_y + 1) rfl (fe_t rfl)) ?_)
    refine tl_step rfl (oj_val (y_ldN2 1 Try.isAgg33 (fe_t rfl) rfl my) ?_)
    refine tl_step rfl (oj_val (y_len Try.underlying33 (fe_t rfl)) ?_)
    refine tl_step rfl (oj_val (y_move fe_c) ?_)
    refine tl_nil ?_
    refine tx_then ?_
    refine tr_block ?_
    refine tr_loop4 [10, 11, 12, 40, 41, 42, 43, 44, 45, 46, 47, 48, 49, 50, 51, 52, 53, 54, 55, 56, 57, 58, 59, 60, 61, 62, 63, 64, 65, 66, 67, 68, 69] (fun (j : Nat) (zs2 : List Int) (vx2 : List Value) (cc : Int) => [(40, .int .i64 (j : Int)), (10, .int .u64 cc)]) 0 (fun (j : Nat) (zs2 : List Int) (vx2 : List Value) (cc : Int) => [(0, vec 153 1 (.slice (some ⟨g, 0, none⟩) (x.n + y.n) (x.n + y.n)) (x.n + y.n) vx2)]) (fun (j : Nat) (zs2 : List Int) (vx2 : List Value) (cc : Int) => j ≤ y.n ∧ vx2 = cU zs2 ∧ MulInv x.ds y.ds zs2 i j cc) (fun (j : Nat) (zs2 : List Int) (vx2 : List Value) (cc : Int) => y.n - j) (0) (zs) (vx) (0) (cov_cons (by first | rfl | exact v_int (by omega) | exact v_bool (by simp [*])) (cov_cons (by first | rfl | exact v_int (by omega) | exact v_bool (by simp [*])) (cov_nil))) (fun w h => h) ?_ ?_
    · try dsimp only
      exact ⟨by omega, hvx, hmi⟩
    intro j zs2 vx2 cc hp
    obtain ⟨hj, hvx2, hmi2⟩ := hp
    have hzl2 := hmi2.2.2.1
    refine tr_seq ?_
    refine tr_region ?_
    refine tl_step rfl (oj_val (y_lss (fe_t rfl) (fe_t rfl)) ?_)
    refine tl_nil ?_
    refine tx_then ?_
    refine tr_seq ?_
    refine tr_condp (fe_t rfl) (fun hq3 => ?_) (fun hq4 => ?_)
    · refine tr_skip ?_
      refine tx_then ?_
      refine tr_seq ?_
      refine tr_block ?_
      refine tr_seq ?_
      refine tr_region ?_
      refine tl_step rfl (oj_val (y_move (fe_t rfl)) ?_)
      refine tl_step rfl (oj_val (y_index Try.underlying33 Try.sizeOf153 (fe_t rfl) (fe_t rfl) (rdl_bag 1 rfl my) (by rw [cU_len, hy.len, Nat.mul_one]) (by decide) (by omega) (Nat.mul_one _)) ?_)
      refine tl_step rfl (oj_val (y_ld (v := .int .u32 (y.ds[j]'(by omega))) Try.isAgg153 (fe_t rfl) (rdl_bag 1 rfl my) (cU_get (by omega))) ?_)
      refine tl_step rfl (oj_val (y_assign (fe_t rfl)) ?_)
      refine tl_step rfl (oj_val (y_assign (fe_t rfl)) ?_)
      refine tl_nil ?_
      refine tx_then ?_
      refine tr_seq ?_
      have hxi := hx.dig.get (k := i) (by omega)
      have hyj := hy.dig.get (k := j) (by omega)
      have hzk := hmi2.2.2.2.1.get (k := i + j) (by omega)
      have hms := mul_step hmi2 hx.dig hy.dig (i := i) (j := j) (by omega) (by omega) (by omega) rfl
      refine tr_region ?_
      refine tl_step rfl (oj_val (y_move (fe_t rfl)) ?_)
      refine tl_step rfl (oj_val (y_move (fe_t rfl)) ?_)
      refine tl_step rfl (oj_val (y_convi Try.underlying153 Try.underlying41 (fe_t rfl) (IntWalk.u64_in _ (by omega))) ?_)
      refine tl_step rfl (oj_val (y_move (fe_t rfl)) ?_)
      refine tl_step rfl (oj_val (y_convi Try.underlying153 Try.underlying41 (fe_t rfl) (IntWalk.u64_in _ (by omega))) ?_)
      refine tl_step rfl (oj_val (y_mulk (fe_t rfl) (fe_t rfl)) ?_)
      refine tl_step rfl (oj_val (y_move (fe_t rfl)) ?_)
      refine tl_step rfl (oj_val (y_move (fe_t rfl)) ?_)
      refine tl_step rfl (oj_val (y_move (fe_t rfl)) ?_)
      refine tl_step rfl (oj_val (y_as (b := ((i + j : Nat) : Int)) (y_add (fe_t rfl) (fe_t rfl) (by omega)) (by omega)) ?_)
      refine tl_step rfl (oj_val (y_index Try.underlying33 Try.sizeOf153 (fe_t rfl) (fe_t rfl) (rdl_vec 0 rfl) (by first | (rw [hvx2, cU_len]; omega) | (rw [hvx, cU_len]; omega) | (rw [hvx2, List.length_set, cU_len]; omega)) (by decide) (by omega) (Nat.mul_one _)) ?_)
      refine tl_step rfl (oj_val (y_ld (v := .int .u32 (zs2[i + j]'(by omega))) Try.isAgg153 (fe_t rfl) (rdl_vec 0 rfl) (by rw [hvx2]; exact cU_get (by omega))) ?_)
      refine tl_step rfl (oj_val (y_convi Try.underlying153 Try.underlying41 (fe_t rfl) (IntWalk.u64_in _ (by omega))) ?_)
      refine tl_step rfl (oj_val (y_addk (fe_t rfl) (fe_t rfl)) ?_)
      refine tl_step rfl (oj_val (y_as (y_addk (fe_t rfl) (fe_t rfl)) (mul_wrap hxi hyj hzk ⟨hmi2.1, hmi2.2.1⟩)) ?_)
      refine tl_step rfl (oj_val (y_assign (fe_t rfl)) ?_)
      refine tl_nil ?_
      refine tx_then ?_
      refine tr_seq ?_
      refine tr_region ?_
      refine tl_step rfl (oj_val (y_move (fe_t rfl)) ?_)
      refine tl_step rfl (oj_val (y_move (fe_t rfl)) ?_)
      refine tl_step rfl (oj_val (y_move (fe_t rfl)) ?_)
      refine tl_step rfl (oj_val (y_as (b := ((i + j : Nat) : Int)) (y_add (fe_t rfl) (fe_t rfl) (by omega)) (by omega)) ?_)
      refine tl_step rfl (oj_val (y_move (fe_t rfl)) ?_)
      refine tl_step rfl (oj_val (y_as (y_conv Try.underlying41 Try.underlying153 (fe_t rfl)) (wrap_lo _)) ?_)
      refine tl_step rfl (oj_val (y_index Try.underlying33 Try.sizeOf153 (fe_t rfl) (fe_t rfl) (rdl_vec 0 rfl) (by first | (rw [hvx2, cU_len]; omega) | (rw [hvx, cU_len]; omega) | (rw [hvx2, List.length_set, cU_len]; omega)) (by decide) (by omega) (Nat.mul_one _)) ?_)
      refine tl_step rfl (oj_storeE1 (i := 0) Try.sizeOf153 (fe_t rfl) (fe_t rfl) rfl rfl rfl (by omega) (?_))
      refine tl_nil ?_
      refine tx_then ?_
      refine tr_region ?_
      refine tl_step rfl (oj_val (y_move (fe_t rfl)) ?_)
      refine tl_step rfl (oj_val (y_as (y_shr (fe_t rfl) fe_c (by decide)) (shr32 hms.1.1)) ?_)
      refine tl_step rfl (oj_val (y_assign (fe_t rfl)) ?_)
      refine tl_nil ?_
      refine tx_in ?_
      refine tx_then ?_
      refine tr_region ?_
      refine tl_step rfl (oj_val (y_inc (fe_t rfl) fe_c (by omega)) ?_)
      refine tl_step rfl (oj_val (y_move (fe_t rfl)) ?_)
      refine tl_nil ?_
      apply tx_back4 (j + 1) (zs2.set (i + j) ((cc + (x.ds[i]'(by omega) * y.ds[j]'(by omega) + zs2[i + j]'(by omega))) % 4294967296)) (_) ((cc + (x.ds[i]'(by omega) * y.ds[j]'(by omega) + zs2[i + j]'(by omega))) / 4294967296)
      · exact (cov_cons (by first | rfl | exact v_int (by omega) | exact v_bool (by simp [*])) (cov_cons (by first | rfl | exact v_int (by omega) | exact v_bool (by simp [*])) (cov_nil)))
      · repeat (first | exact over_nil | refine over_put rfl ?_ | refine over_drop rfl ?_)
      · exact fun w h => h
      · exact ⟨⟨by omega, by rw [hvx2, cU, cU, List.map_set], hms.2⟩, by omega⟩
    · refine tr_exit ?_
      refine tx_then_exit ?_
      refine tx_then_exit ?_
      refine tx_in_exit ?_
      refine tx_then ?_
      have hcc := hmi2.1
      have hcd := hmi2.2.1
      refine tr_region ?_
      refine tl_step rfl (oj_val (y_move (fe_t rfl)) ?_)
      refine tl_step rfl (oj_val (y_move (fe_t rfl)) ?_)
      refine tl_step rfl (oj_val (y_move (fe_t rfl)) ?_)
      refine tl_step rfl (oj_val (y_nilCheck (fe_t rfl)) ?_)
      refine tl_step rfl (oj_val (y_fieldAddr (td := 33) Try.underlying35 rfl rfl Try.sizeOf33 (o' := o_y + 1) rfl (fe_t rfl)) ?_)
      refine tl_step rfl (oj_val (y_ldN2 1 Try.isAgg33 (fe_t rfl) rfl my) ?_)
      refine tl_step rfl (oj_val (y_len Try.underlying33 (fe_t rfl)) ?_)
      refine tl_step rfl (oj_val (y_as (b := ((i + y.n : Nat) : Int)) (y_add (fe_t rfl) (fe_t rfl) (by omega)) (by omega)) ?_)
      refine tl_step rfl (oj_val (y_move (fe_t rfl)) ?_)
      refine tl_step rfl (oj_val (y_convi Try.underlying41 Try.underlying153 (fe_t rfl) (IntWalk.u32_in _ (by omega))) ?_)
      refine tl_step rfl (oj_val (y_index Try.underlying33 Try.sizeOf153 (fe_t rfl) (fe_t rfl) (rdl_vec 0 rfl) (by first | (rw [hvx2, cU_len]; omega) | (rw [hvx, cU_len]; omega) | (rw [hvx2, List.length_set, cU_len]; omega)) (by decide) (by omega) (Nat.mul_one _)) ?_)
      refine tl_step rfl (oj_storeE1 (i := 0) Try.sizeOf153 (fe_t rfl) (fe_t rfl) rfl rfl rfl (by omega) (?_))
      refine tl_nil ?_
      refine tx_in ?_
      refine tx_then ?_
      refine tr_region ?_
      refine tl_step rfl (oj_val (y_inc (fe_t rfl) fe_c (by omega)) ?_)
      refine tl_step rfl (oj_val (y_move (fe_t rfl)) ?_)
      refine tl_nil ?_
      apply tx_back3 (i + 1) (zs2.set (i + y.n) cc) (_)
      · exact (cov_cons (by first | rfl | exact v_int (by omega) | exact v_bool (by simp [*])) (cov_nil))
      · repeat (first | exact over_nil | refine over_put rfl ?_ | refine over_drop rfl ?_)
      · exact fun w h => h
      · have hje : j = y.ds.length := by omega
        rw [hje] at hmi2
        have hr := mul_row hmi2 (by omega)
        rw [ly1] at hr
        exact ⟨⟨by omega, by rw [hvx2, cU, cU, List.map_set], hr⟩, by omega⟩
  · refine tr_exit ?_
    refine tx_then_exit ?_
    refine tx_then_exit ?_
    refine tx_in_exit ?_
    refine tx_then ?_
    refine tr_seq ?_
    subst hvx
    refine tb_draw 14 (sel _ []) (fun w h => h.sel _ rfl (by decide)) rfl ?_
    refine tb_float (i := 0) rfl (by kernel_rfl) rfl (wants_none rfl) (yq_of (y_move (fe_t rfl))) ?_
    refine tb_float (i := 1) rfl (by kernel_rfl) rfl (wants_none rfl) (yq_of (y_move (fe_t rfl))) ?_
    refine tb_float (i := 2) rfl (by kernel_rfl) rfl (wants_none rfl) (yq_of (y_move (fe_t rfl))) ?_
    refine tb_float (i := 3) rfl (by kernel_rfl) rfl (wants_none rfl) (yq_of (y_nilCheck (fe_t rfl))) ?_
    refine tb_float (i := 4) rfl (by kernel_rfl) rfl (wants_none rfl) (yq_of (y_fieldAddr (td := 4) Try.underlying35 rfl rfl Try.sizeOf4 (o' := o_x) rfl (fe_t rfl))) ?_
    refine tb_float1 (i := 5) rfl (by kernel_rfl) (by kernel_rfl) rfl (wants_none rfl) (yq_of (y_ldN1 1 Try.isAgg4 (fe_t rfl) rfl mx)) ?_
    refine tb_float (i := 6) rfl (by kernel_rfl) rfl (wants_none rfl) (yq_of (y_move (fe_t rfl))) ?_
    refine tb_float (i := 7) rfl (by kernel_rfl) rfl (wants_none rfl) (yq_of (y_nilCheck (fe_t rfl))) ?_
    refine tb_float (i := 8) rfl (by kernel_rfl) rfl (wants_none rfl) (yq_of (y_fieldAddr (td := 4) Try.underlying35 rfl rfl Try.sizeOf4 (o' := o_y) rfl (fe_t rfl))) ?_
    refine tb_float1 (i := 9) rfl (by kernel_rfl) (by kernel_rfl) rfl (wants_none rfl) (yq_of (y_ldN1 1 Try.isAgg4 (fe_t rfl) rfl my)) ?_
    refine tb_float (i := 10) rfl (by kernel_rfl) rfl (wants_none rfl) (yq_of (y_neqb Try.underlying4 (fe_t rfl) (fe_t rfl))) ?_
    refine tb_float (i := 11) rfl (by kernel_rfl) rfl (wants_none rfl) (yq_of (y_move (fe_t rfl))) ?_
    refine tb_float (i := 12) rfl (by kernel_rfl) rfl (wants_none rfl) (yq_of (y_nilCheck (fe_t rfl))) ?_
    refine tb_float (i := 13) rfl (by kernel_rfl) rfl (wants_none rfl) (yq_of (y_fieldAddr (td := 4) Try.underlying35 rfl rfl Try.sizeOf4 (o' := o) rfl (fe_t rfl))) ?_
    refine tb_one2 (i := 14) rfl (by kernel_rfl) (by kernel_rfl) (wants_none rfl) (oj_stN1 1 0 Try.sizeOf4 (fe_t rfl) (fe_t rfl) rfl rfl (⟨fun w h => h.pick [] _ rfl (by decide), ?_⟩))
    refine tb_float (i := 15) rfl (by kernel_rfl) rfl (wants_none rfl) (yq_of (y_nilCheck (fe_t rfl))) ?_
    refine tb_float (i := 16) rfl (by kernel_rfl) rfl (wants_none rfl) (yq_of (y_fieldAddr (td := 33) Try.underlying35 rfl rfl Try.sizeOf33 (o' := o + 1) rfl (fe_t rfl))) ?_
    refine tb_one2 (i := 17) rfl (by kernel_rfl) (by kernel_rfl) (wants_none rfl) (oj_stN3 (ds := zs) 1 0 0 Try.sizeOf33 (fe_t rfl) (fe_t rfl) rfl rfl rfl rfl (fun D1 => ⟨fun w h => h.pick [] _ rfl (by decide), ?_⟩))
    refine tb_done (by kernel_rfl) ?_
    refine tx_then ?_
    refine tr_seq ?_
    refine tr_region ?_
    refine tl_step rfl (oj_val (y_move (fe_t rfl)) ?_)
    refine tl_step rfl (oj_call2 Try.call126 fe_f (fel_cons (fe_t rfl) fel_nil) (fun w' hS => lift1 (p := fun n => n.is (sg (!(x.neg == y.neg)) (dval zs))) 1 0 hS rfl rfl (fun T l' hm hS => trimB hS (by show zs.length = x.n + y.n; omega) (Nat.le_refl _) (by show x.n + y.n ≤ _; omega) hmi.2.2.2.1)) (fun r1 hr1 => ?_))
    refine tl_step rfl (oj_val (y_assign (fe_t rfl)) ?_)
    refine tl_nil ?_
    refine tx_then ?_
    refine tr_ret ?_
    refine tx_ret (res1 Try.results46 (rok_t rfl)) (fun w' hS => ?_)
    have hie : i = x.ds.length := by omega
    rw [hie] at hmi
    rw [mul_end hmi rfl, sg_mul, ← hx.val, ← hy.val] at hr1
    have hS := pickT (l := [_, _]) hS [1] rfl (by decide)
    have hS' : St w0 w' (bag _ _ ((⟨b, o, _⟩ : Ent) :: l) :: T) := hS
    exact fin1 hS' hr1

end Go.Proofs.Ytcpdelkamckmfaa.Big
