/- The Int library by the engine: Mul. -/
import Derived.Test.YtcpdelkamckmfaaBgC
import Derived.Test.YtcpdelkamckmfaaBigF
namespace Go.Proofs.Ytcpdelkamckmfaa.Big
open Go.RowKit Go.Proofs.Ytcpdelkamckmfaa.E

theorem mul_wrap {x y z c : Int} (hx : 0 ≤ x ∧ x < 4294967296) (hy : 0 ≤ y ∧ y < 4294967296) (hz : 0 ≤ z ∧ z < 4294967296) (hc : 0 ≤ c ∧ c < 4294967296) : IntKind.u64.wrap (c + IntKind.u64.wrap (IntKind.u64.wrap (x * y) + z)) = c + (x * y + z) := by
  have h0 : 0 ≤ x * y := Int.mul_nonneg hx.1 hy.1
  have h1 : x * y ≤ 4294967295 * 4294967295 := Int.mul_le_mul (by omega) (by omega) hy.1 (by omega)
  rw [IntWalk.u64_in (x * y) (by omega), IntWalk.u64_in (x * y + z) (by omega), IntWalk.u64_in _ (by omega)]
theorem shr32 {t : Int} (h : 0 ≤ t) : t.fdiv (2 ^ (min (32 : Int).toNat IntKind.u64.bits)) = t / 4294967296 := by
  rw [show (2 : Int) ^ (min (32 : Int).toNat IntKind.u64.bits) = 4294967296 from by decide]
  exact Int.fdiv_eq_ediv_of_nonneg _ (by omega)
theorem sg_mul (a b : Bool) (u v : Int) : sg (!(a == b)) (u * v) = sg a u * sg b v := by cases a <;> cases b <;> simp [sg, Int.neg_mul, Int.mul_neg]

set_option maxRecDepth 100000 in
set_option maxHeartbeats 2000000 in
theorem mulE {w0 w : World} {T : List Res} (b bx b3 : Nat) (q x y : Nm) (zx zy : Int) (hS : St w0 w (q.h b :: q.d :: x.h bx :: x.d :: y.h b3 :: y.d :: T)) (hx : x.is zx) (hy : y.is zy) (lx : x.n ≤ 100000) (ly : y.n ≤ 100000) :
    Calls Try.prog 46 #[.pointer (some ⟨b, 0, none⟩), .pointer (some ⟨bx, 0, none⟩), .pointer (some ⟨b3, 0, none⟩)] w fun e w' => ∃ q' : Nm, q'.is (zx * zy) ∧ e = .returned (.pointer (some ⟨b, 0, none⟩)) ∧ St w0 w' (q'.h b :: q'.d :: x.h bx :: x.d :: y.h b3 :: y.d :: T) := by
  have lx1 := hx.len
  have ly1 := hy.len
  refine calls_tr Try.func46 Try.ntmps46 rfl rfl hS ?_
  refine tr_seq ?_
  refine tr_region ?_
  refine tl_step rfl (oj_val (y_assign fe_c) ?_)
  refine tl_nil ?_
  refine tx_then ?_
  refine tr_seq ?_
  refine tr_draw (sel _ [0, 1, 2, 3, 4, 5]) (fun w h => h.sel _ rfl (by decide)) rfl ?_
  refine ta_float (i := 0) rfl (by kernel_rfl) (wants_none rfl) (yq_of (y_move (fe_t rfl))) ?_
  refine ta_float (i := 1) rfl (by kernel_rfl) (wants_none rfl) (yq_of (y_nilCheck (fe_t rfl))) ?_
  refine ta_float (i := 2) rfl (by kernel_rfl) (wants_none rfl) (yq_of (y_fieldAddr (td := 33) Try.underlying35 rfl rfl Try.sizeOf33 (o' := 1) rfl (fe_t rfl))) ?_
  refine ta_float (i := 3) rfl (by kernel_rfl) (wants_none rfl) (yq_of (y_ldb 2 Try.isAgg33 (fe_t rfl) rfl rfl)) ?_
  refine ta_float (i := 4) rfl (by kernel_rfl) (wants_none rfl) (yq_of (y_len Try.underlying33 (fe_t rfl))) ?_
  refine ta_float (i := 5) rfl (by kernel_rfl) (wants_none rfl) (yq_of (y_move (fe_t rfl))) ?_
  refine ta_float (i := 6) rfl (by kernel_rfl) (wants_none rfl) (yq_of (y_nilCheck (fe_t rfl))) ?_
  refine ta_float (i := 7) rfl (by kernel_rfl) (wants_none rfl) (yq_of (y_fieldAddr (td := 33) Try.underlying35 rfl rfl Try.sizeOf33 (o' := 1) rfl (fe_t rfl))) ?_
  refine ta_float (i := 8) rfl (by kernel_rfl) (wants_none rfl) (yq_of (y_ldb 4 Try.isAgg33 (fe_t rfl) rfl rfl)) ?_
  refine ta_float (i := 9) rfl (by kernel_rfl) (wants_none rfl) (yq_of (y_len Try.underlying33 (fe_t rfl))) ?_
  refine ta_float (i := 10) rfl (by kernel_rfl) (wants_none rfl) (yq_of (y_as (b := ((x.n + y.n : Nat) : Int)) (y_add (fe_t rfl) (fe_t rfl) (by omega)) (by omega))) ?_
  refine ta_one (i := 11) rfl (by kernel_rfl) (wants_none rfl) (oj_make (n := x.n + y.n) (z := (.int .u32 0)) (bytes := 4) Try.underlying33 (by kernel_rfl) (fe_t rfl) (fe_t rfl) rfl ⟨by omega, by decide⟩ (fun g => ⟨fun w h => h.pick [1, 2, 3, 4, 5, 6] _ rfl (by decide), ?_⟩))
  refine ta_float (i := 12) rfl (by kernel_rfl) (wants_none rfl) (yq_of (y_assign (fe_t rfl))) ?_
  refine ta_done (by kernel_rfl) ?_
  refine tx_then ?_
  refine tr_seq ?_
  refine tr_seq ?_
  refine tr_region ?_
  refine tl_step rfl (oj_val (y_move (fe_t rfl)) ?_)
  refine tl_step rfl (oj_val (y_nilCheck (fe_t rfl)) ?_)
  refine tl_step rfl (oj_val (y_fieldAddr (td := 33) Try.underlying35 rfl rfl Try.sizeOf33 (o' := 1) rfl (fe_t rfl)) ?_)
  refine tl_step rfl (oj_val (y_ldb 3 Try.isAgg33 (fe_t rfl) rfl rfl) ?_)
  refine tl_step rfl (oj_val (y_len Try.underlying33 (fe_t rfl)) ?_)
  refine tl_step rfl (oj_val (y_move fe_c) ?_)
  refine tl_nil ?_
  refine tx_then ?_
  refine tr_block ?_
  refine tr_loop3 [8, 9, 10, 11, 12, 30, 31, 32, 33, 34, 35, 36, 37, 38, 39, 40, 41, 42, 43, 44, 45, 46, 47, 48, 49, 50, 51, 52, 53, 54, 55, 56, 57, 58, 59, 60, 61, 62, 63, 64, 65, 66, 67, 68, 69, 70, 71, 72, 73, 74, 75, 76, 77, 78, 79, 80, 81] (fun (i : Nat) (zs : List Int) (vx : List Value) => [(30, .int .i64 (i : Int))]) 0 (fun (i : Nat) (zs : List Int) (vx : List Value) => [(0, vec 153 1 (.slice (some ⟨g, 0, none⟩) (x.n + y.n) (x.n + y.n)) (x.n + y.n) vx)]) (fun (i : Nat) (zs : List Int) (vx : List Value) => i ≤ x.n ∧ vx = cU zs ∧ MulInv x.ds y.ds zs i 0 0) (fun (i : Nat) (zs : List Int) (vx : List Value) => x.n - i) (0) (List.replicate (x.ds.length + y.ds.length) 0) (List.replicate (x.n + y.n) (.int .u32 0)) (cov_cons (by first | rfl | exact v_int (by omega) | exact v_bool (by simp [*])) (cov_nil)) (fun w h => h) ?_ ?_
  · try dsimp only
    exact ⟨by omega, by simp [cU, lx1, ly1], mul_start _ _⟩
  intro i zs vx hp
  obtain ⟨hi, hvx, hmi⟩ := hp
  have hzl := hmi.2.2.1
  refine tr_seq ?_
  refine tr_region ?_
  refine tl_step rfl (oj_val (y_lss (fe_t rfl) (fe_t rfl)) ?_)
  refine tl_nil ?_
  refine tx_then ?_
  refine tr_seq ?_
  refine tr_condp (fe_t rfl) (fun hq1 => ?_) (fun hq2 => ?_)
  · refine tr_skip ?_
    refine tx_then ?_
    refine tr_seq ?_
    refine tr_block ?_
    refine tr_seq ?_
    refine tr_region ?_
    refine tl_step rfl (oj_val (y_move (fe_t rfl)) ?_)
    refine tl_step rfl (oj_val (y_index Try.underlying33 Try.sizeOf153 (fe_t rfl) (fe_t rfl) (rdl_vec 4 rfl) (by rw [cU_len, hx.len, Nat.mul_one]) (by decide) (by omega) (Nat.mul_one _)) ?_)
    refine tl_step rfl (oj_val (y_ld (v := .int .u32 (x.ds[i]'(by omega))) Try.isAgg153 (fe_t rfl) (rdl_vec 4 rfl) (cU_get (by omega))) ?_)
    refine tl_step rfl (oj_val (y_assign (fe_t rfl)) ?_)
    refine tl_step rfl (oj_val (y_assign (fe_t rfl)) ?_)
    refine tl_nil ?_
    refine tx_then ?_
    refine tr_seq ?_
    refine tr_region ?_
    refine tl_step rfl (oj_val (y_assign fe_c) ?_)
    refine tl_nil ?_
    refine tx_then ?_
    refine tr_seq ?_
    refine tr_seq ?_
    refine tr_region ?_
    refine tl_step rfl (oj_val (y_move (fe_t rfl)) ?_)
    refine tl_step rfl (oj_val (y_nilCheck (fe_t rfl)) ?_)
    refine tl_step rfl (oj_val (y_fieldAddr (td := 33) Try.underlying35 rfl rfl Try.sizeOf33 (o' := 1) rfl (fe_t rfl)) ?_)
    refine tl_step rfl (oj_val (y_ldb 5 Try.isAgg33 (fe_t rfl) rfl rfl) ?_)
    refine tl_step rfl (oj_val (y_len Try.underlying33 (fe_t rfl)) ?_)
    refine tl_step rfl (oj_val (y_move fe_c) ?_)
    refine tl_nil ?_
    refine tx_then ?_
    refine tr_block ?_
    refine tr_loop4 [10, 11, 12, 40, 41, 42, 43, 44, 45, 46, 47, 48, 49, 50, 51, 52, 53, 54, 55, 56, 57, 58, 59, 60, 61, 62, 63, 64, 65, 66, 67, 68, 69] (fun (j : Nat) (zs2 : List Int) (vx2 : List Value) (cc : Int) => [(40, .int .i64 (j : Int)), (10, .int .u64 cc)]) 0 (fun (j : Nat) (zs2 : List Int) (vx2 : List Value) (cc : Int) => [(0, vec 153 1 (.slice (some ⟨g, 0, none⟩) (x.n + y.n) (x.n + y.n)) (x.n + y.n) vx2)]) (fun (j : Nat) (zs2 : List Int) (vx2 : List Value) (cc : Int) => j ≤ y.n ∧ vx2 = cU zs2 ∧ MulInv x.ds y.ds zs2 i j cc) (fun (j : Nat) (zs2 : List Int) (vx2 : List Value) (cc : Int) => y.n - j) (0) (zs) (vx) (0) (cov_cons (by first | rfl | exact v_int (by omega) | exact v_bool (by simp [*])) (cov_cons (by first | rfl | exact v_int (by omega) | exact v_bool (by simp [*])) (cov_nil))) (fun w h => h) ?_ ?_
    · try dsimp only
      exact ⟨by omega, hvx, hmi⟩
    intro j zs2 vx2 cc hp
    obtain ⟨hj, hvx2, hmi2⟩ := hp
    have hzl2 := hmi2.2.2.1
    refine tr_seq ?_
    refine tr_region ?_
    refine tl_step rfl (oj_val (y_lss (fe_t rfl) (fe_t rfl)) ?_)
    refine tl_nil ?_
    refine tx_then ?_
    refine tr_seq ?_
    refine tr_condp (fe_t rfl) (fun hq3 => ?_) (fun hq4 => ?_)
    · refine tr_skip ?_
      refine tx_then ?_
      refine tr_seq ?_
      refine tr_block ?_
      refine tr_seq ?_
      refine tr_region ?_
      refine tl_step rfl (oj_val (y_move (fe_t rfl)) ?_)
      refine tl_step rfl (oj_val (y_index Try.underlying33 Try.sizeOf153 (fe_t rfl) (fe_t rfl) (rdl_vec 6 rfl) (by rw [cU_len, hy.len, Nat.mul_one]) (by decide) (by omega) (Nat.mul_one _)) ?_)
      refine tl_step rfl (oj_val (y_ld (v := .int .u32 (y.ds[j]'(by omega))) Try.isAgg153 (fe_t rfl) (rdl_vec 6 rfl) (cU_get (by omega))) ?_)
      refine tl_step rfl (oj_val (y_assign (fe_t rfl)) ?_)
      refine tl_step rfl (oj_val (y_assign (fe_t rfl)) ?_)
      refine tl_nil ?_
      refine tx_then ?_
      refine tr_seq ?_
      have hxi := hx.dig.get (k := i) (by omega)
      have hyj := hy.dig.get (k := j) (by omega)
      have hzk := hmi2.2.2.2.1.get (k := i + j) (by omega)
      have hms := mul_step hmi2 hx.dig hy.dig (i := i) (j := j) (by omega) (by omega) (by omega) rfl
      refine tr_region ?_
      refine tl_step rfl (oj_val (y_move (fe_t rfl)) ?_)
      refine tl_step rfl (oj_val (y_move (fe_t rfl)) ?_)
      refine tl_step rfl (oj_val (y_convi Try.underlying153 Try.underlying41 (fe_t rfl) (IntWalk.u64_in _ (by omega))) ?_)
      refine tl_step rfl (oj_val (y_move (fe_t rfl)) ?_)
      refine tl_step rfl (oj_val (y_convi Try.underlying153 Try.underlying41 (fe_t rfl) (IntWalk.u64_in _ (by omega))) ?_)
      refine tl_step rfl (oj_val (y_mulk (fe_t rfl) (fe_t rfl)) ?_)
      refine tl_step rfl (oj_val (y_move (fe_t rfl)) ?_)
      refine tl_step rfl (oj_val (y_move (fe_t rfl)) ?_)
      refine tl_step rfl (oj_val (y_move (fe_t rfl)) ?_)
      refine tl_step rfl (oj_val (y_as (b := ((i + j : Nat) : Int)) (y_add (fe_t rfl) (fe_t rfl) (by omega)) (by omega)) ?_)
      refine tl_step rfl (oj_val (y_index Try.underlying33 Try.sizeOf153 (fe_t rfl) (fe_t rfl) (rdl_vec 0 rfl) (by first | (rw [hvx2, cU_len]; omega) | (rw [hvx, cU_len]; omega) | (rw [hvx2, List.length_set, cU_len]; omega)) (by decide) (by omega) (Nat.mul_one _)) ?_)
      refine tl_step rfl (oj_val (y_ld (v := .int .u32 (zs2[i + j]'(by omega))) Try.isAgg153 (fe_t rfl) (rdl_vec 0 rfl) (by rw [hvx2]; exact cU_get (by omega))) ?_)
      refine tl_step rfl (oj_val (y_convi Try.underlying153 Try.underlying41 (fe_t rfl) (IntWalk.u64_in _ (by omega))) ?_)
      refine tl_step rfl (oj_val (y_addk (fe_t rfl) (fe_t rfl)) ?_)
      refine tl_step rfl (oj_val (y_as (y_addk (fe_t rfl) (fe_t rfl)) (mul_wrap hxi hyj hzk ⟨hmi2.1, hmi2.2.1⟩)) ?_)
      refine tl_step rfl (oj_val (y_assign (fe_t rfl)) ?_)
      refine tl_nil ?_
      refine tx_then ?_
      refine tr_seq ?_
      refine tr_region ?_
      refine tl_step rfl (oj_val (y_move (fe_t rfl)) ?_)
      refine tl_step rfl (oj_val (y_move (fe_t rfl)) ?_)
      refine tl_step rfl (oj_val (y_move (fe_t rfl)) ?_)
      refine tl_step rfl (oj_val (y_as (b := ((i + j : Nat) : Int)) (y_add (fe_t rfl) (fe_t rfl) (by omega)) (by omega)) ?_)
      refine tl_step rfl (oj_val (y_move (fe_t rfl)) ?_)
      refine tl_step rfl (oj_val (y_as (y_conv Try.underlying41 Try.underlying153 (fe_t rfl)) (wrap_lo _)) ?_)
      refine tl_step rfl (oj_val (y_index Try.underlying33 Try.sizeOf153 (fe_t rfl) (fe_t rfl) (rdl_vec 0 rfl) (by first | (rw [hvx2, cU_len]; omega) | (rw [hvx, cU_len]; omega) | (rw [hvx2, List.length_set, cU_len]; omega)) (by decide) (by omega) (Nat.mul_one _)) ?_)
      refine tl_step rfl (oj_storeE1 (i := 0) Try.sizeOf153 (fe_t rfl) (fe_t rfl) rfl rfl rfl (by omega) (?_))
      refine tl_nil ?_
      refine tx_then ?_
      refine tr_region ?_
      refine tl_step rfl (oj_val (y_move (fe_t rfl)) ?_)
      refine tl_step rfl (oj_val (y_as (y_shr (fe_t rfl) fe_c (by decide)) (shr32 hms.1.1)) ?_)
      refine tl_step rfl (oj_val (y_assign (fe_t rfl)) ?_)
      refine tl_nil ?_
      refine tx_in ?_
      refine tx_then ?_
      refine tr_region ?_
      refine tl_step rfl (oj_val (y_inc (fe_t rfl) fe_c (by omega)) ?_)
      refine tl_step rfl (oj_val (y_move (fe_t rfl)) ?_)
      refine tl_nil ?_
      apply tx_back4 (j + 1) (zs2.set (i + j) ((cc + (x.ds[i]'(by omega) * y.ds[j]'(by omega) + zs2[i + j]'(by omega))) % 4294967296)) (_) ((cc + (x.ds[i]'(by omega) * y.ds[j]'(by omega) + zs2[i + j]'(by omega))) / 4294967296)
      · exact (cov_cons (by first | rfl | exact v_int (by omega) | exact v_bool (by simp [*])) (cov_cons (by first | rfl | exact v_int (by omega) | exact v_bool (by simp [*])) (cov_nil)))
      · repeat (first | exact over_nil | refine over_put rfl ?_ | refine over_drop rfl ?_)
      · exact fun w h => h
      · exact ⟨⟨by omega, by rw [hvx2, cU, cU, List.map_set], hms.2⟩, by omega⟩
    · refine tr_exit ?_
      refine tx_then_exit ?_
      refine tx_then_exit ?_
      refine tx_in_exit ?_
      refine tx_then ?_
      have hcc := hmi2.1
      have hcd := hmi2.2.1
      refine tr_region ?_
      refine tl_step rfl (oj_val (y_move (fe_t rfl)) ?_)
      refine tl_step rfl (oj_val (y_move (fe_t rfl)) ?_)
      refine tl_step rfl (oj_val (y_move (fe_t rfl)) ?_)
      refine tl_step rfl (oj_val (y_nilCheck (fe_t rfl)) ?_)
      refine tl_step rfl (oj_val (y_fieldAddr (td := 33) Try.underlying35 rfl rfl Try.sizeOf33 (o' := 1) rfl (fe_t rfl)) ?_)
      refine tl_step rfl (oj_val (y_ldb 5 Try.isAgg33 (fe_t rfl) rfl rfl) ?_)
      refine tl_step rfl (oj_val (y_len Try.underlying33 (fe_t rfl)) ?_)
      refine tl_step rfl (oj_val (y_as (b := ((i + y.n : Nat) : Int)) (y_add (fe_t rfl) (fe_t rfl) (by omega)) (by omega)) ?_)
      refine tl_step rfl (oj_val (y_move (fe_t rfl)) ?_)
      refine tl_step rfl (oj_val (y_convi Try.underlying41 Try.underlying153 (fe_t rfl) (IntWalk.u32_in _ (by omega))) ?_)
      refine tl_step rfl (oj_val (y_index Try.underlying33 Try.sizeOf153 (fe_t rfl) (fe_t rfl) (rdl_vec 0 rfl) (by first | (rw [hvx2, cU_len]; omega) | (rw [hvx, cU_len]; omega) | (rw [hvx2, List.length_set, cU_len]; omega)) (by decide) (by omega) (Nat.mul_one _)) ?_)
      refine tl_step rfl (oj_storeE1 (i := 0) Try.sizeOf153 (fe_t rfl) (fe_t rfl) rfl rfl rfl (by omega) (?_))
      refine tl_nil ?_
      refine tx_in ?_
      refine tx_then ?_
      refine tr_region ?_
      refine tl_step rfl (oj_val (y_inc (fe_t rfl) fe_c (by omega)) ?_)
      refine tl_step rfl (oj_val (y_move (fe_t rfl)) ?_)
      refine tl_nil ?_
      apply tx_back3 (i + 1) (zs2.set (i + y.n) cc) (_)
      · exact (cov_cons (by first | rfl | exact v_int (by omega) | exact v_bool (by simp [*])) (cov_nil))
      · repeat (first | exact over_nil | refine over_put rfl ?_ | refine over_drop rfl ?_)
      · exact fun w h => h
      · have hje : j = y.ds.length := by omega
        rw [hje] at hmi2
        have hr := mul_row hmi2 (by omega)
        rw [ly1] at hr
        exact ⟨⟨by omega, by rw [hvx2, cU, cU, List.map_set], hr⟩, by omega⟩
  · refine tr_exit ?_
    refine tx_then_exit ?_
    refine tx_then_exit ?_
    refine tx_in_exit ?_
    refine tx_then ?_
    refine tr_seq ?_
    subst hvx
    refine tr_draw (sel _ [0, 2, 3, 4, 5, 6]) (fun w h => h.sel _ rfl (by decide)) rfl ?_
    refine ta_float (i := 0) rfl (by kernel_rfl) (wants_none rfl) (yq_of (y_move (fe_t rfl))) ?_
    refine ta_float (i := 1) rfl (by kernel_rfl) (wants_none rfl) (yq_of (y_move (fe_t rfl))) ?_
    refine ta_float (i := 2) rfl (by kernel_rfl) (wants_none rfl) (yq_of (y_move (fe_t rfl))) ?_
    refine ta_float (i := 3) rfl (by kernel_rfl) (wants_none rfl) (yq_of (y_nilCheck (fe_t rfl))) ?_
    refine ta_float (i := 4) rfl (by kernel_rfl) (wants_none rfl) (yq_of (y_fieldAddr (td := 4) Try.underlying35 rfl rfl Try.sizeOf4 (o' := 0) rfl (fe_t rfl))) ?_
    refine ta_float (i := 5) rfl (by kernel_rfl) (wants_none rfl) (yq_of (y_ldb 2 Try.isAgg4 (fe_t rfl) rfl rfl)) ?_
    refine ta_float (i := 6) rfl (by kernel_rfl) (wants_none rfl) (yq_of (y_move (fe_t rfl))) ?_
    refine ta_float (i := 7) rfl (by kernel_rfl) (wants_none rfl) (yq_of (y_nilCheck (fe_t rfl))) ?_
    refine ta_float (i := 8) rfl (by kernel_rfl) (wants_none rfl) (yq_of (y_fieldAddr (td := 4) Try.underlying35 rfl rfl Try.sizeOf4 (o' := 0) rfl (fe_t rfl))) ?_
    refine ta_float (i := 9) rfl (by kernel_rfl) (wants_none rfl) (yq_of (y_ldb 4 Try.isAgg4 (fe_t rfl) rfl rfl)) ?_
    refine ta_float (i := 10) rfl (by kernel_rfl) (wants_none rfl) (yq_of (y_neqb Try.underlying4 (fe_t rfl) (fe_t rfl))) ?_
    refine ta_float (i := 11) rfl (by kernel_rfl) (wants_none rfl) (yq_of (y_move (fe_t rfl))) ?_
    refine ta_float (i := 12) rfl (by kernel_rfl) (wants_none rfl) (yq_of (y_nilCheck (fe_t rfl))) ?_
    refine ta_float (i := 13) rfl (by kernel_rfl) (wants_none rfl) (yq_of (y_fieldAddr (td := 4) Try.underlying35 rfl rfl Try.sizeOf4 (o' := 0) rfl (fe_t rfl))) ?_
    refine ta_one (i := 14) rfl (by kernel_rfl) (wants_none rfl) (oj_store1 1 Try.sizeOf4 (fe_t rfl) (fe_t rfl) rfl rfl rfl rfl (⟨fun w h => h.pick [0, 2, 3, 4, 5, 6] _ rfl (by decide), ?_⟩))
    refine ta_float (i := 15) rfl (by kernel_rfl) (wants_none rfl) (yq_of (y_nilCheck (fe_t rfl))) ?_
    refine ta_float (i := 16) rfl (by kernel_rfl) (wants_none rfl) (yq_of (y_fieldAddr (td := 33) Try.underlying35 rfl rfl Try.sizeOf33 (o' := 1) rfl (fe_t rfl))) ?_
    refine ta_one (i := 17) rfl (by kernel_rfl) (wants_none rfl) (oj_store1 1 Try.sizeOf33 (fe_t rfl) (fe_t rfl) rfl rfl rfl rfl (⟨fun w h => h.pick [0, 2, 3, 4, 5, 6] _ rfl (by decide), ?_⟩))
    refine ta_done (by kernel_rfl) ?_
    refine tx_then ?_
    refine tr_seq ?_
    refine tr_region ?_
    refine tl_step rfl (oj_val (y_move (fe_t rfl)) ?_)
    refine tl_step rfl (oj_call2 Try.call126 fe_f (fel_cons (fe_t rfl) fel_nil) (fun w' hS => trimN b (!(x.neg == y.neg)) (some ⟨g, 0, none⟩) (x.n + y.n) (x.n + y.n) zs (pickT (l := [_, _, _, _, _, _, _]) hS [1, 0, 3, 4, 5, 6] rfl (by decide)) (by omega) (Nat.le_refl _) (by omega) hmi.2.2.2.1) (fun q1 hq1 => ?_))
    refine tl_step rfl (oj_val (y_assign (fe_t rfl)) ?_)
    refine tl_nil ?_
    refine tx_then ?_
    refine tr_ret ?_
    refine tx_ret (res1 Try.results46 (rok_t rfl)) (fun w' hS => ?_)
    have hie : i = x.ds.length := by omega
    rw [hie] at hmi
    rw [mul_end hmi rfl, sg_mul, ← hx.val, ← hy.val] at hq1
    exact ⟨q1, hq1, rfl, hS⟩
end Go.Proofs.Ytcpdelkamckmfaa.Big
