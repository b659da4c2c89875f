/- The Int library, numbers held together: sumOf, lessOf. -/
import Derived.Test.YtcpdelkamckmfaaBB
import Derived.Test.YtcpdelkamckmfaaBigL
namespace Go.Proofs.Ytcpdelkamckmfaa.Big
open Go.RowKit Go.Proofs.Ytcpdelkamckmfaa.E

set_option maxRecDepth 100000 in
set_option maxHeartbeats 1000000 in
theorem sumE_ge (A A' : Option Addr) (c c' : Nat) (x y : List Int) (w : World) (hr : Rd w A (cU x)) (hr' : Rd w A' (cU y)) (hx : Dig x) (hy : Dig y) (n m : Nat) (hn : x.length = n) (hm : y.length = m) (lx : n ≤ 100000) (ly : m ≤ 100000) (hle : m ≤ n) :
    Calls Try.prog 124 #[.slice A n c, .slice A' m c'] w fun e w' => ∃ p : Option Addr × Nat × List Int, (Dig p.2.2 ∧ dval p.2.2 = dval x + dval y ∧ p.2.2.length = (n + 1) ∧ (n + 1) ≤ p.2.1) ∧ e = .returned (.slice p.1 (n + 1) p.2.1) ∧ St w w' [dig p.1 (n + 1) p.2.1 p.2.2] := by
  refine calls_tr Try.func124 Try.ntmps124 rfl rfl (St.refl _) ?_
  refine tr_seq ?_
  refine tr_region ?_
  refine tl_step rfl (oj_val (y_assign fe_c) ?_)
  refine tl_nil ?_
  refine tx_then ?_
  refine tr_seq ?_
  refine tr_seq ?_
  refine tr_region ?_
  refine tl_step rfl (oj_val (y_move (fe_t rfl)) ?_)
  refine tl_step rfl (oj_val (y_len Try.underlying33 (fe_t rfl)) ?_)
  refine tl_step rfl (oj_val (y_move (fe_t rfl)) ?_)
  refine tl_step rfl (oj_val (y_len Try.underlying33 (fe_t rfl)) ?_)
  refine tl_step rfl (oj_val (y_lss (fe_t rfl) (fe_t rfl)) ?_)
  refine tl_nil ?_
  refine tx_then ?_
  refine tr_condp (fe_t rfl) (fun hq1 => ?_) (fun hq2 => ?_)
  · exfalso; omega
  · refine tr_skip ?_
    refine tx_then ?_
    refine tr_seq ?_
    refine tr_region ?_
    refine tl_step rfl (oj_val (y_move (fe_t rfl)) ?_)
    refine tl_step rfl (oj_val (y_len Try.underlying33 (fe_t rfl)) ?_)
    refine tl_step rfl (oj_val (y_inc (fe_t rfl) fe_c (by omega)) ?_)
    refine tl_step rfl (oj_make (n := n + 1) (z := (.int .u32 0)) (bytes := 4) Try.underlying33 (by kernel_rfl) (fe_t rfl) (fe_t rfl) rfl ⟨by omega, by decide⟩ (fun g => ?_))
    refine tl_step rfl (oj_val (y_assign (fe_t rfl)) ?_)
    refine tl_nil ?_
    refine tx_then ?_
    refine tr_seq ?_
    refine tr_region ?_
    refine tl_step rfl (oj_val (y_assign fe_c) ?_)
    refine tl_nil ?_
    refine tx_then ?_
    refine tr_seq ?_
    refine tr_seq ?_
    refine tr_region ?_
    refine tl_step rfl (oj_val (y_move (fe_t rfl)) ?_)
    refine tl_step rfl (oj_val (y_len Try.underlying33 (fe_t rfl)) ?_)
    refine tl_step rfl (oj_val (y_move fe_c) ?_)
    refine tl_nil ?_
    refine tx_then ?_
    refine tr_block ?_
    refine tr_loop4 [6, 7, 8, 22, 23, 24, 25, 26, 27, 28, 29, 30, 31, 32, 33, 34, 35, 36, 37, 38, 39, 40, 41, 42, 43, 44, 45, 46, 47, 48, 49] (fun (k : Nat) (zs : List Int) (cc : Int) (vx : List Value) => [(22, .int .i64 (k : Int)), (6, .int .u64 cc)]) 0 (fun (k : Nat) (zs : List Int) (cc : Int) (vx : List Value) => [(0, vec 153 1 (.slice (some ⟨g, 0, none⟩) (n + 1) (n + 1)) (n + 1) vx)]) (fun (k : Nat) (zs : List Int) (cc : Int) (vx : List Value) => k ≤ n ∧ vx = cU zs ∧ SumInv x y zs k cc) (fun (k : Nat) (zs : List Int) (cc : Int) (vx : List Value) => n - k) (0) (List.replicate (x.length + 1) 0) (0) (List.replicate (n + 1) (.int .u32 0)) (cov_cons (by first | rfl | exact v_int (by omega) | exact v_bool (by simp [*])) (cov_cons (by first | rfl | exact v_int (by omega) | exact v_bool (by simp [*])) (cov_nil))) (fun w h => h) ?_ ?_
    · try dsimp only
      exact ⟨by omega, by simp [cU]; omega, sum_start _ _⟩
    intro k zs cc vx hp
    obtain ⟨hk, hvx, hinv⟩ := hp
    have hzl := hinv.2.2.1
    refine tr_seq ?_
    refine tr_region ?_
    refine tl_step rfl (oj_val (y_lss (fe_t rfl) (fe_t rfl)) ?_)
    refine tl_nil ?_
    refine tx_then ?_
    refine tr_seq ?_
    refine tr_condp (fe_t rfl) (fun hq3 => ?_) (fun hq4 => ?_)
    · refine tr_skip ?_
      refine tx_then ?_
      refine tr_seq ?_
      refine tr_block ?_
      refine tr_seq ?_
      refine tr_region ?_
      refine tl_step rfl (oj_val (y_move (fe_t rfl)) ?_)
      refine tl_step rfl (oj_val (y_index Try.underlying33 Try.sizeOf153 (fe_t rfl) (fe_t rfl) (rdl_out hr) (by rw [cU_len]; omega) (by decide) (by omega) (Nat.mul_one _)) ?_)
      refine tl_step rfl (oj_val (y_ld (v := .int .u32 (x[k]'(by omega))) Try.isAgg153 (fe_t rfl) (rdl_out hr) (cU_get (by omega))) ?_)
      refine tl_step rfl (oj_val (y_assign (fe_t rfl)) ?_)
      refine tl_step rfl (oj_val (y_assign (fe_t rfl)) ?_)
      refine tl_nil ?_
      refine tx_then ?_
      refine tr_seq ?_
      have hxi := hx.get (k := k) (by omega)
      have hc0 := hinv.1
      have hc1 := hinv.2.1
      refine tr_region ?_
      refine tl_step rfl (oj_val (y_move (fe_t rfl)) ?_)
      refine tl_step rfl (oj_val (y_move (fe_t rfl)) ?_)
      refine tl_step rfl (oj_val (y_convi Try.underlying153 Try.underlying41 (fe_t rfl) (IntWalk.u64_in _ (by omega))) ?_)
      refine tl_step rfl (oj_val (y_as (y_addk (fe_t rfl) (fe_t rfl)) (IntWalk.u64_in _ (by omega))) ?_)
      refine tl_step rfl (oj_val (y_assign (fe_t rfl)) ?_)
      refine tl_nil ?_
      refine tx_then ?_
      refine tr_seq ?_
      refine tr_seq ?_
      refine tr_region ?_
      refine tl_step rfl (oj_val (y_move (fe_t rfl)) ?_)
      refine tl_step rfl (oj_val (y_move (fe_t rfl)) ?_)
      refine tl_step rfl (oj_val (y_len Try.underlying33 (fe_t rfl)) ?_)
      refine tl_step rfl (oj_val (y_lss (fe_t rfl) (fe_t rfl)) ?_)
      refine tl_nil ?_
      refine tx_then ?_
      refine tr_condp (fe_t rfl) (fun hq5 => ?_) (fun hq6 => ?_)
      · have hyi := hy.get (k := k) (by omega)
        refine tr_region ?_
        refine tl_step rfl (oj_val (y_move (fe_t rfl)) ?_)
        refine tl_step rfl (oj_val (y_move (fe_t rfl)) ?_)
        refine tl_step rfl (oj_val (y_move (fe_t rfl)) ?_)
        refine tl_step rfl (oj_val (y_index Try.underlying33 Try.sizeOf153 (fe_t rfl) (fe_t rfl) (rdl_out hr') (by rw [cU_len]; omega) (by decide) (by omega) (Nat.mul_one _)) ?_)
        refine tl_step rfl (oj_val (y_ld (v := .int .u32 (y[k]'(by omega))) Try.isAgg153 (fe_t rfl) (rdl_out hr') (cU_get (by omega))) ?_)
        refine tl_step rfl (oj_val (y_convi Try.underlying153 Try.underlying41 (fe_t rfl) (IntWalk.u64_in _ (by omega))) ?_)
        refine tl_step rfl (oj_val (y_as (y_addk (fe_t rfl) (fe_t rfl)) (IntWalk.u64_in _ (by omega))) ?_)
        refine tl_step rfl (oj_val (y_assign (fe_t rfl)) ?_)
        refine tl_nil ?_
        refine tx_then ?_
        refine tr_seq ?_
        refine tr_region ?_
        refine tl_step rfl (oj_val (y_move (fe_t rfl)) ?_)
        refine tl_step rfl (oj_val (y_move (fe_t rfl)) ?_)
        refine tl_step rfl (oj_val (y_move (fe_t rfl)) ?_)
        refine tl_step rfl (oj_val (y_as (y_conv Try.underlying41 Try.underlying153 (fe_t rfl)) (wrap_lo _)) ?_)
        refine tl_step rfl (oj_val (y_index Try.underlying33 Try.sizeOf153 (fe_t rfl) (fe_t rfl) (rdl_vec 0 rfl) (by rw [hvx, cU_len]; omega) (by decide) (by omega) (Nat.mul_one _)) ?_)
        refine tl_step rfl (oj_storeE1 (i := 0) Try.sizeOf153 (fe_t rfl) (fe_t rfl) rfl rfl rfl (by omega) (?_))
        refine tl_nil ?_
        refine tx_then ?_
        refine tr_region ?_
        refine tl_step rfl (oj_val (y_move (fe_t rfl)) ?_)
        refine tl_step rfl (oj_val (y_as (y_shr (fe_t rfl) fe_c (by decide)) (shr32 (by omega))) ?_)
        refine tl_step rfl (oj_val (y_assign (fe_t rfl)) ?_)
        refine tl_nil ?_
        refine tx_in ?_
        refine tx_then ?_
        refine tr_region ?_
        refine tl_step rfl (oj_val (y_inc (fe_t rfl) fe_c (by omega)) ?_)
        refine tl_step rfl (oj_val (y_move (fe_t rfl)) ?_)
        refine tl_nil ?_
        apply tx_back4 (k + 1) (zs.set k ((cc + (x[k]'(by omega)) + (y[k]'(by omega))) % 4294967296)) ((cc + (x[k]'(by omega)) + (y[k]'(by omega))) / 4294967296) (_)
        · exact (cov_cons (by first | rfl | exact v_int (by omega) | exact v_bool (by simp [*])) (cov_cons (by first | rfl | exact v_int (by omega) | exact v_bool (by simp [*])) (cov_nil)))
        · repeat (first | exact over_nil | refine over_put rfl ?_ | refine over_drop rfl ?_)
        · exact fun w h => h.pick [0] _ rfl (by decide)
        · exact ⟨⟨by omega, by rw [hvx, cU, cU, List.map_set], sum_next hinv hx hy (by omega) (by rw [getD_lt (by omega)])⟩, by omega⟩
      · refine tr_skip ?_
        refine tx_then ?_
        refine tr_seq ?_
        refine tr_region ?_
        refine tl_step rfl (oj_val (y_move (fe_t rfl)) ?_)
        refine tl_step rfl (oj_val (y_move (fe_t rfl)) ?_)
        refine tl_step rfl (oj_val (y_move (fe_t rfl)) ?_)
        refine tl_step rfl (oj_val (y_as (y_conv Try.underlying41 Try.underlying153 (fe_t rfl)) (wrap_lo _)) ?_)
        refine tl_step rfl (oj_val (y_index Try.underlying33 Try.sizeOf153 (fe_t rfl) (fe_t rfl) (rdl_vec 0 rfl) (by rw [hvx, cU_len]; omega) (by decide) (by omega) (Nat.mul_one _)) ?_)
        refine tl_step rfl (oj_storeE1 (i := 0) Try.sizeOf153 (fe_t rfl) (fe_t rfl) rfl rfl rfl (by omega) (?_))
        refine tl_nil ?_
        refine tx_then ?_
        refine tr_region ?_
        refine tl_step rfl (oj_val (y_move (fe_t rfl)) ?_)
        refine tl_step rfl (oj_val (y_as (y_shr (fe_t rfl) fe_c (by decide)) (shr32 (by omega))) ?_)
        refine tl_step rfl (oj_val (y_assign (fe_t rfl)) ?_)
        refine tl_nil ?_
        refine tx_in ?_
        refine tx_then ?_
        refine tr_region ?_
        refine tl_step rfl (oj_val (y_inc (fe_t rfl) fe_c (by omega)) ?_)
        refine tl_step rfl (oj_val (y_move (fe_t rfl)) ?_)
        refine tl_nil ?_
        apply tx_back4 (k + 1) (zs.set k ((cc + (x[k]'(by omega))) % 4294967296)) ((cc + (x[k]'(by omega))) / 4294967296) (_)
        · exact (cov_cons (by first | rfl | exact v_int (by omega) | exact v_bool (by simp [*])) (cov_cons (by first | rfl | exact v_int (by omega) | exact v_bool (by simp [*])) (cov_nil)))
        · repeat (first | exact over_nil | refine over_put rfl ?_ | refine over_drop rfl ?_)
        · exact fun w h => h.pick [0] _ rfl (by decide)
        · exact ⟨⟨by omega, by rw [hvx, cU, cU, List.map_set], sum_next hinv hx hy (by omega) (by rw [getD_ge (by omega)]; omega)⟩, by omega⟩
    · refine tr_exit ?_
      refine tx_then_exit ?_
      refine tx_then_exit ?_
      refine tx_in_exit ?_
      refine tx_then ?_
      refine tr_seq ?_
      have hc0 := hinv.1
      have hc1 := hinv.2.1
      refine tr_region ?_
      refine tl_step rfl (oj_val (y_move (fe_t rfl)) ?_)
      refine tl_step rfl (oj_val (y_move (fe_t rfl)) ?_)
      refine tl_step rfl (oj_val (y_len Try.underlying33 (fe_t rfl)) ?_)
      refine tl_step rfl (oj_val (y_move (fe_t rfl)) ?_)
      refine tl_step rfl (oj_val (y_convi Try.underlying41 Try.underlying153 (fe_t rfl) (IntWalk.u32_in _ (by omega))) ?_)
      refine tl_step rfl (oj_val (y_index Try.underlying33 Try.sizeOf153 (fe_t rfl) (fe_t rfl) (rdl_vec 0 rfl) (by rw [hvx, cU_len]; omega) (by decide) (by omega) (Nat.mul_one _)) ?_)
      refine tl_step rfl (oj_storeE1 (i := 0) Try.sizeOf153 (fe_t rfl) (fe_t rfl) rfl rfl rfl (by omega) (?_))
      refine tl_nil ?_
      refine tx_then ?_
      refine tr_seq ?_
      refine tr_region ?_
      refine tl_step rfl (oj_val (y_move (fe_t rfl)) ?_)
      refine tl_step rfl (oj_val (y_assign (fe_t rfl)) ?_)
      refine tl_nil ?_
      refine tx_then ?_
      refine tr_ret ?_
      refine tx_ret (res1 Try.results124 (rok_t rfl)) (fun w' hS => ?_)
      have hke : k = x.length := by omega
      rw [hke] at hinv
      obtain ⟨e1, e2, e3⟩ := sum_end hinv (by omega)
      rw [hvx, show n = x.length by omega, show (cU zs).set x.length (.int .u32 cc) = cU (zs.set x.length cc) by rw [cU, cU, List.map_set]] at hS
      exact ⟨(some ⟨g, 0, none⟩, (n + 1), zs.set x.length cc), ⟨e1, by first | exact e2 | (dsimp only; omega), by dsimp only; omega, Nat.le_refl _⟩, rfl, by first | exact hS.pick [0] _ rfl (by decide) | (rw [show x.length = n by omega] at hS ⊢; exact hS.pick [0] _ rfl (by decide))⟩

set_option maxRecDepth 100000 in
set_option maxHeartbeats 1000000 in
theorem sumE_lt (A A' : Option Addr) (c c' : Nat) (x y : List Int) (w : World) (hr : Rd w A (cU x)) (hr' : Rd w A' (cU y)) (hx : Dig x) (hy : Dig y) (n m : Nat) (hn : x.length = n) (hm : y.length = m) (lx : n ≤ 100000) (ly : m ≤ 100000) (hle : n < m) :
    Calls Try.prog 124 #[.slice A n c, .slice A' m c'] w fun e w' => ∃ p : Option Addr × Nat × List Int, (Dig p.2.2 ∧ dval p.2.2 = dval x + dval y ∧ p.2.2.length = (m + 1) ∧ (m + 1) ≤ p.2.1) ∧ e = .returned (.slice p.1 (m + 1) p.2.1) ∧ St w w' [dig p.1 (m + 1) p.2.1 p.2.2] := by
  refine calls_tr Try.func124 Try.ntmps124 rfl rfl (St.refl _) ?_
  refine tr_seq ?_
  refine tr_region ?_
  refine tl_step rfl (oj_val (y_assign fe_c) ?_)
  refine tl_nil ?_
  refine tx_then ?_
  refine tr_seq ?_
  refine tr_seq ?_
  refine tr_region ?_
  refine tl_step rfl (oj_val (y_move (fe_t rfl)) ?_)
  refine tl_step rfl (oj_val (y_len Try.underlying33 (fe_t rfl)) ?_)
  refine tl_step rfl (oj_val (y_move (fe_t rfl)) ?_)
  refine tl_step rfl (oj_val (y_len Try.underlying33 (fe_t rfl)) ?_)
  refine tl_step rfl (oj_val (y_lss (fe_t rfl) (fe_t rfl)) ?_)
  refine tl_nil ?_
  refine tx_then ?_
  refine tr_condp (fe_t rfl) (fun hq1 => ?_) (fun hq2 => ?_)
  · refine tr_region ?_
    refine tl_step rfl (oj_val (y_move (fe_t rfl)) ?_)
    refine tl_step rfl (oj_val (y_move (fe_t rfl)) ?_)
    refine tl_step rfl (oj_val (y_assign (fe_t rfl)) ?_)
    refine tl_step rfl (oj_val (y_assign (fe_t rfl)) ?_)
    refine tl_nil ?_
    refine tx_then ?_
    refine tr_seq ?_
    refine tr_region ?_
    refine tl_step rfl (oj_val (y_move (fe_t rfl)) ?_)
    refine tl_step rfl (oj_val (y_len Try.underlying33 (fe_t rfl)) ?_)
    refine tl_step rfl (oj_val (y_inc (fe_t rfl) fe_c (by omega)) ?_)
    refine tl_step rfl (oj_make (n := m + 1) (z := (.int .u32 0)) (bytes := 4) Try.underlying33 (by kernel_rfl) (fe_t rfl) (fe_t rfl) rfl ⟨by omega, by decide⟩ (fun g => ?_))
    refine tl_step rfl (oj_val (y_assign (fe_t rfl)) ?_)
    refine tl_nil ?_
    refine tx_then ?_
    refine tr_seq ?_
    refine tr_region ?_
    refine tl_step rfl (oj_val (y_assign fe_c) ?_)
    refine tl_nil ?_
    refine tx_then ?_
    refine tr_seq ?_
    refine tr_seq ?_
    refine tr_region ?_
    refine tl_step rfl (oj_val (y_move (fe_t rfl)) ?_)
    refine tl_step rfl (oj_val (y_len Try.underlying33 (fe_t rfl)) ?_)
    refine tl_step rfl (oj_val (y_move fe_c) ?_)
    refine tl_nil ?_
    refine tx_then ?_
    refine tr_block ?_
    refine tr_loop4 [6, 7, 8, 22, 23, 24, 25, 26, 27, 28, 29, 30, 31, 32, 33, 34, 35, 36, 37, 38, 39, 40, 41, 42, 43, 44, 45, 46, 47, 48, 49] (fun (k : Nat) (zs : List Int) (cc : Int) (vx : List Value) => [(22, .int .i64 (k : Int)), (6, .int .u64 cc)]) 0 (fun (k : Nat) (zs : List Int) (cc : Int) (vx : List Value) => [(0, vec 153 1 (.slice (some ⟨g, 0, none⟩) (m + 1) (m + 1)) (m + 1) vx)]) (fun (k : Nat) (zs : List Int) (cc : Int) (vx : List Value) => k ≤ m ∧ vx = cU zs ∧ SumInv y x zs k cc) (fun (k : Nat) (zs : List Int) (cc : Int) (vx : List Value) => m - k) (0) (List.replicate (y.length + 1) 0) (0) (List.replicate (m + 1) (.int .u32 0)) (cov_cons (by first | rfl | exact v_int (by omega) | exact v_bool (by simp [*])) (cov_cons (by first | rfl | exact v_int (by omega) | exact v_bool (by simp [*])) (cov_nil))) (fun w h => h) ?_ ?_
    · try dsimp only
      exact ⟨by omega, by simp [cU]; omega, sum_start _ _⟩
    intro k zs cc vx hp
    obtain ⟨hk, hvx, hinv⟩ := hp
    have hzl := hinv.2.2.1
    refine tr_seq ?_
    refine tr_region ?_
    refine tl_step rfl (oj_val (y_lss (fe_t rfl) (fe_t rfl)) ?_)
    refine tl_nil ?_
    refine tx_then ?_
    refine tr_seq ?_
    refine tr_condp (fe_t rfl) (fun hq3 => ?_) (fun hq4 => ?_)
    · refine tr_skip ?_
      refine tx_then ?_
      refine tr_seq ?_
      refine tr_block ?_
      refine tr_seq ?_
      refine tr_region ?_
      refine tl_step rfl (oj_val (y_move (fe_t rfl)) ?_)
      refine tl_step rfl (oj_val (y_index Try.underlying33 Try.sizeOf153 (fe_t rfl) (fe_t rfl) (rdl_out hr') (by rw [cU_len]; omega) (by decide) (by omega) (Nat.mul_one _)) ?_)
      refine tl_step rfl (oj_val (y_ld (v := .int .u32 (y[k]'(by omega))) Try.isAgg153 (fe_t rfl) (rdl_out hr') (cU_get (by omega))) ?_)
      refine tl_step rfl (oj_val (y_assign (fe_t rfl)) ?_)
      refine tl_step rfl (oj_val (y_assign (fe_t rfl)) ?_)
      refine tl_nil ?_
      refine tx_then ?_
      refine tr_seq ?_
      have hxi := hy.get (k := k) (by omega)
      have hc0 := hinv.1
      have hc1 := hinv.2.1
      refine tr_region ?_
      refine tl_step rfl (oj_val (y_move (fe_t rfl)) ?_)
      refine tl_step rfl (oj_val (y_move (fe_t rfl)) ?_)
      refine tl_step rfl (oj_val (y_convi Try.underlying153 Try.underlying41 (fe_t rfl) (IntWalk.u64_in _ (by omega))) ?_)
      refine tl_step rfl (oj_val (y_as (y_addk (fe_t rfl) (fe_t rfl)) (IntWalk.u64_in _ (by omega))) ?_)
      refine tl_step rfl (oj_val (y_assign (fe_t rfl)) ?_)
      refine tl_nil ?_
      refine tx_then ?_
      refine tr_seq ?_
      refine tr_seq ?_
      refine tr_region ?_
      refine tl_step rfl (oj_val (y_move (fe_t rfl)) ?_)
      refine tl_step rfl (oj_val (y_move (fe_t rfl)) ?_)
      refine tl_step rfl (oj_val (y_len Try.underlying33 (fe_t rfl)) ?_)
      refine tl_step rfl (oj_val (y_lss (fe_t rfl) (fe_t rfl)) ?_)
      refine tl_nil ?_
      refine tx_then ?_
      refine tr_condp (fe_t rfl) (fun hq5 => ?_) (fun hq6 => ?_)
      · have hyi := hx.get (k := k) (by omega)
        refine tr_region ?_
        refine tl_step rfl (oj_val (y_move (fe_t rfl)) ?_)
        refine tl_step rfl (oj_val (y_move (fe_t rfl)) ?_)
        refine tl_step rfl (oj_val (y_move (fe_t rfl)) ?_)
        refine tl_step rfl (oj_val (y_index Try.underlying33 Try.sizeOf153 (fe_t rfl) (fe_t rfl) (rdl_out hr) (by rw [cU_len]; omega) (by decide) (by omega) (Nat.mul_one _)) ?_)
        refine tl_step rfl (oj_val (y_ld (v := .int .u32 (x[k]'(by omega))) Try.isAgg153 (fe_t rfl) (rdl_out hr) (cU_get (by omega))) ?_)
        refine tl_step rfl (oj_val (y_convi Try.underlying153 Try.underlying41 (fe_t rfl) (IntWalk.u64_in _ (by omega))) ?_)
        refine tl_step rfl (oj_val (y_as (y_addk (fe_t rfl) (fe_t rfl)) (IntWalk.u64_in _ (by omega))) ?_)
        refine tl_step rfl (oj_val (y_assign (fe_t rfl)) ?_)
        refine tl_nil ?_
        refine tx_then ?_
        refine tr_seq ?_
        refine tr_region ?_
        refine tl_step rfl (oj_val (y_move (fe_t rfl)) ?_)
        refine tl_step rfl (oj_val (y_move (fe_t rfl)) ?_)
        refine tl_step rfl (oj_val (y_move (fe_t rfl)) ?_)
        refine tl_step rfl (oj_val (y_as (y_conv Try.underlying41 Try.underlying153 (fe_t rfl)) (wrap_lo _)) ?_)
        refine tl_step rfl (oj_val (y_index Try.underlying33 Try.sizeOf153 (fe_t rfl) (fe_t rfl) (rdl_vec 0 rfl) (by rw [hvx, cU_len]; omega) (by decide) (by omega) (Nat.mul_one _)) ?_)
        refine tl_step rfl (oj_storeE1 (i := 0) Try.sizeOf153 (fe_t rfl) (fe_t rfl) rfl rfl rfl (by omega) (?_))
        refine tl_nil ?_
        refine tx_then ?_
        refine tr_region ?_
        refine tl_step rfl (oj_val (y_move (fe_t rfl)) ?_)
        refine tl_step rfl (oj_val (y_as (y_shr (fe_t rfl) fe_c (by decide)) (shr32 (by omega))) ?_)
        refine tl_step rfl (oj_val (y_assign (fe_t rfl)) ?_)
        refine tl_nil ?_
        refine tx_in ?_
        refine tx_then ?_
        refine tr_region ?_
        refine tl_step rfl (oj_val (y_inc (fe_t rfl) fe_c (by omega)) ?_)
        refine tl_step rfl (oj_val (y_move (fe_t rfl)) ?_)
        refine tl_nil ?_
        apply tx_back4 (k + 1) (zs.set k ((cc + (y[k]'(by omega)) + (x[k]'(by omega))) % 4294967296)) ((cc + (y[k]'(by omega)) + (x[k]'(by omega))) / 4294967296) (_)
        · exact (cov_cons (by first | rfl | exact v_int (by omega) | exact v_bool (by simp [*])) (cov_cons (by first | rfl | exact v_int (by omega) | exact v_bool (by simp [*])) (cov_nil)))
        · repeat (first | exact over_nil | refine over_put rfl ?_ | refine over_drop rfl ?_)
        · exact fun w h => h.pick [0] _ rfl (by decide)
        · exact ⟨⟨by omega, by rw [hvx, cU, cU, List.map_set], sum_next hinv hy hx (by omega) (by rw [getD_lt (by omega)])⟩, by omega⟩
      · refine tr_skip ?_
        refine tx_then ?_
        refine tr_seq ?_
        refine tr_region ?_
        refine tl_step rfl (oj_val (y_move (fe_t rfl)) ?_)
        refine tl_step rfl (oj_val (y_move (fe_t rfl)) ?_)
        refine tl_step rfl (oj_val (y_move (fe_t rfl)) ?_)
        refine tl_step rfl (oj_val (y_as (y_conv Try.underlying41 Try.underlying153 (fe_t rfl)) (wrap_lo _)) ?_)
        refine tl_step rfl (oj_val (y_index Try.underlying33 Try.sizeOf153 (fe_t rfl) (fe_t rfl) (rdl_vec 0 rfl) (by rw [hvx, cU_len]; omega) (by decide) (by omega) (Nat.mul_one _)) ?_)
        refine tl_step rfl (oj_storeE1 (i := 0) Try.sizeOf153 (fe_t rfl) (fe_t rfl) rfl rfl rfl (by omega) (?_))
        refine tl_nil ?_
        refine tx_then ?_
        refine tr_region ?_
        refine tl_step rfl (oj_val (y_move (fe_t rfl)) ?_)
        refine tl_step rfl (oj_val (y_as (y_shr (fe_t rfl) fe_c (by decide)) (shr32 (by omega))) ?_)
        refine tl_step rfl (oj_val (y_assign (fe_t rfl)) ?_)
        refine tl_nil ?_
        refine tx_in ?_
        refine tx_then ?_
        refine tr_region ?_
        refine tl_step rfl (oj_val (y_inc (fe_t rfl) fe_c (by omega)) ?_)
        refine tl_step rfl (oj_val (y_move (fe_t rfl)) ?_)
        refine tl_nil ?_
        apply tx_back4 (k + 1) (zs.set k ((cc + (y[k]'(by omega))) % 4294967296)) ((cc + (y[k]'(by omega))) / 4294967296) (_)
        · exact (cov_cons (by first | rfl | exact v_int (by omega) | exact v_bool (by simp [*])) (cov_cons (by first | rfl | exact v_int (by omega) | exact v_bool (by simp [*])) (cov_nil)))
        · repeat (first | exact over_nil | refine over_put rfl ?_ | refine over_drop rfl ?_)
        · exact fun w h => h.pick [0] _ rfl (by decide)
        · exact ⟨⟨by omega, by rw [hvx, cU, cU, List.map_set], sum_next hinv hy hx (by omega) (by rw [getD_ge (by omega)]; omega)⟩, by omega⟩
    · refine tr_exit ?_
      refine tx_then_exit ?_
      refine tx_then_exit ?_
      refine tx_in_exit ?_
      refine tx_then ?_
      refine tr_seq ?_
      have hc0 := hinv.1
      have hc1 := hinv.2.1
      refine tr_region ?_
      refine tl_step rfl (oj_val (y_move (fe_t rfl)) ?_)
      refine tl_step rfl (oj_val (y_move (fe_t rfl)) ?_)
      refine tl_step rfl (oj_val (y_len Try.underlying33 (fe_t rfl)) ?_)
      refine tl_step rfl (oj_val (y_move (fe_t rfl)) ?_)
      refine tl_step rfl (oj_val (y_convi Try.underlying41 Try.underlying153 (fe_t rfl) (IntWalk.u32_in _ (by omega))) ?_)
      refine tl_step rfl (oj_val (y_index Try.underlying33 Try.sizeOf153 (fe_t rfl) (fe_t rfl) (rdl_vec 0 rfl) (by rw [hvx, cU_len]; omega) (by decide) (by omega) (Nat.mul_one _)) ?_)
      refine tl_step rfl (oj_storeE1 (i := 0) Try.sizeOf153 (fe_t rfl) (fe_t rfl) rfl rfl rfl (by omega) (?_))
      refine tl_nil ?_
      refine tx_then ?_
      refine tr_seq ?_
      refine tr_region ?_
      refine tl_step rfl (oj_val (y_move (fe_t rfl)) ?_)
      refine tl_step rfl (oj_val (y_assign (fe_t rfl)) ?_)
      refine tl_nil ?_
      refine tx_then ?_
      refine tr_ret ?_
      refine tx_ret (res1 Try.results124 (rok_t rfl)) (fun w' hS => ?_)
      have hke : k = y.length := by omega
      rw [hke] at hinv
      obtain ⟨e1, e2, e3⟩ := sum_end hinv (by omega)
      rw [hvx, show m = y.length by omega, show (cU zs).set y.length (.int .u32 cc) = cU (zs.set y.length cc) by rw [cU, cU, List.map_set]] at hS
      exact ⟨(some ⟨g, 0, none⟩, (m + 1), zs.set y.length cc), ⟨e1, by first | exact e2 | (dsimp only; omega), by dsimp only; omega, Nat.le_refl _⟩, rfl, by first | exact hS.pick [0] _ rfl (by decide) | (rw [show y.length = m by omega] at hS ⊢; exact hS.pick [0] _ rfl (by decide))⟩
  · exfalso; omega

theorem wrap3 (a b : Int) : IntKind.u64.wrap (a % 18446744073709551616 - b) = (a - b) % 18446744073709551616 := by rw [wrap1]; omega
theorem less_lo (t : Int) : IntKind.u32.wrap (t % 18446744073709551616) = t % 4294967296 := by rw [wrap_lo]; omega
theorem less_hi {t : Int} (h0 : -8589934592 ≤ t) (h1 : t ≤ 8589934592) : (t % 18446744073709551616).fdiv (2 ^ (min (63 : Int).toNat IntKind.u64.bits)) = if t < 0 then 1 else 0 := by
  rw [show (2 : Int) ^ (min (63 : Int).toNat IntKind.u64.bits) = 9223372036854775808 from by decide, Int.fdiv_eq_ediv_of_nonneg _ (by omega)]
  split <;> omega
set_option maxRecDepth 100000 in
set_option maxHeartbeats 1000000 in
theorem lessE (A A' : Option Addr) (c c' : Nat) (x y : List Int) (w : World) (hr : Rd w A (cU x)) (hr' : Rd w A' (cU y)) (hx : Dig x) (hy : Dig y) (n m : Nat) (hn : x.length = n) (hm : y.length = m) (lx : n ≤ 100000) (hle : m ≤ n) (hv : dval y ≤ dval x) :
    Calls Try.prog 125 #[.slice A n c, .slice A' m c'] w fun e w' => ∃ p : Option Addr × Nat × List Int, (Dig p.2.2 ∧ dval p.2.2 = dval x - dval y ∧ p.2.2.length = n ∧ n ≤ p.2.1) ∧ e = .returned (.slice p.1 n p.2.1) ∧ St w w' [dig p.1 n p.2.1 p.2.2] := by
  refine calls_tr Try.func125 Try.ntmps125 rfl rfl (St.refl _) ?_
  refine tr_seq ?_
  refine tr_region ?_
  refine tl_step rfl (oj_val (y_assign fe_c) ?_)
  refine tl_nil ?_
  refine tx_then ?_
  refine tr_seq ?_
  refine tr_region ?_
  refine tl_step rfl (oj_val (y_move (fe_t rfl)) ?_)
  refine tl_step rfl (oj_val (y_len Try.underlying33 (fe_t rfl)) ?_)
  refine tl_step rfl (oj_make (n := n) (z := (.int .u32 0)) (bytes := 4) Try.underlying33 (by kernel_rfl) (fe_t rfl) (fe_t rfl) rfl ⟨by omega, by decide⟩ (fun g => ?_))
  refine tl_step rfl (oj_val (y_assign (fe_t rfl)) ?_)
  refine tl_nil ?_
  refine tx_then ?_
  refine tr_seq ?_
  refine tr_region ?_
  refine tl_step rfl (oj_val (y_assign fe_c) ?_)
  refine tl_nil ?_
  refine tx_then ?_
  refine tr_seq ?_
  refine tr_seq ?_
  refine tr_region ?_
  refine tl_step rfl (oj_val (y_move (fe_t rfl)) ?_)
  refine tl_step rfl (oj_val (y_len Try.underlying33 (fe_t rfl)) ?_)
  refine tl_step rfl (oj_val (y_move fe_c) ?_)
  refine tl_nil ?_
  refine tx_then ?_
  refine tr_block ?_
  refine tr_loop4 [6, 7, 8, 9, 15, 16, 17, 18, 19, 20, 21, 22, 23, 24, 25, 26, 27, 28, 29, 30, 31, 32, 33, 34, 35, 36, 37, 38, 39, 40, 41, 42] (fun (k : Nat) (zs : List Int) (cc : Int) (vx : List Value) => [(15, .int .i64 (k : Int)), (6, .int .u64 cc)]) 0 (fun (k : Nat) (zs : List Int) (cc : Int) (vx : List Value) => [(0, vec 153 1 (.slice (some ⟨g, 0, none⟩) n n) n vx)]) (fun (k : Nat) (zs : List Int) (cc : Int) (vx : List Value) => k ≤ n ∧ vx = cU zs ∧ LessInv x y zs k cc) (fun (k : Nat) (zs : List Int) (cc : Int) (vx : List Value) => n - k) (0) (List.replicate x.length 0) (0) (List.replicate n (.int .u32 0)) (cov_cons (by first | rfl | exact v_int (by omega) | exact v_bool (by simp [*])) (cov_cons (by first | rfl | exact v_int (by omega) | exact v_bool (by simp [*])) (cov_nil))) (fun w h => h) ?_ ?_
  · try dsimp only
    exact ⟨by omega, by simp [cU]; omega, less_start _ _⟩
  intro k zs cc vx hp
  obtain ⟨hk, hvx, hinv⟩ := hp
  have hzl := hinv.2.2.1
  refine tr_seq ?_
  refine tr_region ?_
  refine tl_step rfl (oj_val (y_lss (fe_t rfl) (fe_t rfl)) ?_)
  refine tl_nil ?_
  refine tx_then ?_
  refine tr_seq ?_
  refine tr_condp (fe_t rfl) (fun hq1 => ?_) (fun hq2 => ?_)
  · refine tr_skip ?_
    refine tx_then ?_
    refine tr_seq ?_
    refine tr_block ?_
    refine tr_seq ?_
    refine tr_region ?_
    refine tl_step rfl (oj_val (y_move (fe_t rfl)) ?_)
    refine tl_step rfl (oj_val (y_index Try.underlying33 Try.sizeOf153 (fe_t rfl) (fe_t rfl) (rdl_out hr) (by rw [cU_len]; omega) (by decide) (by omega) (Nat.mul_one _)) ?_)
    refine tl_step rfl (oj_val (y_ld (v := .int .u32 (x[k]'(by omega))) Try.isAgg153 (fe_t rfl) (rdl_out hr) (cU_get (by omega))) ?_)
    refine tl_step rfl (oj_val (y_assign (fe_t rfl)) ?_)
    refine tl_step rfl (oj_val (y_assign (fe_t rfl)) ?_)
    refine tl_nil ?_
    refine tx_then ?_
    refine tr_seq ?_
    have hxi := hx.get (k := k) (by omega)
    have hc0 := hinv.1
    have hc1 := hinv.2.1
    refine tr_region ?_
    refine tl_step rfl (oj_val (y_move (fe_t rfl)) ?_)
    refine tl_step rfl (oj_val (y_convi Try.underlying153 Try.underlying41 (fe_t rfl) (IntWalk.u64_in _ (by omega))) ?_)
    refine tl_step rfl (oj_val (y_move (fe_t rfl)) ?_)
    refine tl_step rfl (oj_val (y_as (y_subk (fe_t rfl) (fe_t rfl)) (wrap1 _)) ?_)
    refine tl_step rfl (oj_val (y_assign (fe_t rfl)) ?_)
    refine tl_nil ?_
    refine tx_then ?_
    refine tr_seq ?_
    refine tr_seq ?_
    refine tr_region ?_
    refine tl_step rfl (oj_val (y_move (fe_t rfl)) ?_)
    refine tl_step rfl (oj_val (y_move (fe_t rfl)) ?_)
    refine tl_step rfl (oj_val (y_len Try.underlying33 (fe_t rfl)) ?_)
    refine tl_step rfl (oj_val (y_lss (fe_t rfl) (fe_t rfl)) ?_)
    refine tl_nil ?_
    refine tx_then ?_
    refine tr_condp (fe_t rfl) (fun hq3 => ?_) (fun hq4 => ?_)
    · have hyi := hy.get (k := k) (by omega)
      refine tr_region ?_
      refine tl_step rfl (oj_val (y_move (fe_t rfl)) ?_)
      refine tl_step rfl (oj_val (y_move (fe_t rfl)) ?_)
      refine tl_step rfl (oj_val (y_move (fe_t rfl)) ?_)
      refine tl_step rfl (oj_val (y_index Try.underlying33 Try.sizeOf153 (fe_t rfl) (fe_t rfl) (rdl_out hr') (by rw [cU_len]; omega) (by decide) (by omega) (Nat.mul_one _)) ?_)
      refine tl_step rfl (oj_val (y_ld (v := .int .u32 (y[k]'(by omega))) Try.isAgg153 (fe_t rfl) (rdl_out hr') (cU_get (by omega))) ?_)
      refine tl_step rfl (oj_val (y_convi Try.underlying153 Try.underlying41 (fe_t rfl) (IntWalk.u64_in _ (by omega))) ?_)
      refine tl_step rfl (oj_val (y_as (y_subk (fe_t rfl) (fe_t rfl)) (wrap3 _ _)) ?_)
      refine tl_step rfl (oj_val (y_assign (fe_t rfl)) ?_)
      refine tl_nil ?_
      refine tx_then ?_
      refine tr_seq ?_
      refine tr_region ?_
      refine tl_step rfl (oj_val (y_move (fe_t rfl)) ?_)
      refine tl_step rfl (oj_val (y_move (fe_t rfl)) ?_)
      refine tl_step rfl (oj_val (y_move (fe_t rfl)) ?_)
      refine tl_step rfl (oj_val (y_as (y_conv Try.underlying41 Try.underlying153 (fe_t rfl)) (less_lo _)) ?_)
      refine tl_step rfl (oj_val (y_index Try.underlying33 Try.sizeOf153 (fe_t rfl) (fe_t rfl) (rdl_vec 0 rfl) (by rw [hvx, cU_len]; omega) (by decide) (by omega) (Nat.mul_one _)) ?_)
      refine tl_step rfl (oj_storeE1 (i := 0) Try.sizeOf153 (fe_t rfl) (fe_t rfl) rfl rfl rfl (by omega) (?_))
      refine tl_nil ?_
      refine tx_then ?_
      refine tr_region ?_
      refine tl_step rfl (oj_val (y_move (fe_t rfl)) ?_)
      refine tl_step rfl (oj_val (y_as (y_shr (fe_t rfl) fe_c (by decide)) (less_hi (by omega) (by omega))) ?_)
      refine tl_step rfl (oj_val (y_assign (fe_t rfl)) ?_)
      refine tl_nil ?_
      refine tx_in ?_
      refine tx_then ?_
      refine tr_region ?_
      refine tl_step rfl (oj_val (y_inc (fe_t rfl) fe_c (by omega)) ?_)
      refine tl_step rfl (oj_val (y_move (fe_t rfl)) ?_)
      refine tl_nil ?_
      apply tx_back4 (k + 1) (zs.set k (((x[k]'(by omega)) - cc - (y[k]'(by omega))) % 4294967296)) ((if (x[k]'(by omega)) - cc - (y[k]'(by omega)) < 0 then 1 else 0)) (_)
      · exact (cov_cons (by first | rfl | exact v_int (by omega) | exact v_bool (by simp [*])) (cov_cons (by first | rfl | exact v_int (by omega) | exact v_bool (by simp [*])) (cov_nil)))
      · repeat (first | exact over_nil | refine over_put rfl ?_ | refine over_drop rfl ?_)
      · exact fun w h => h.pick [0] _ rfl (by decide)
      · refine ⟨⟨by omega, by rw [hvx, cU, cU, List.map_set], less_next hinv (by omega) (by rw [getD_lt (by omega)]) (by omega) (by split <;> omega) (by split <;> omega)⟩, by omega⟩
    · refine tr_skip ?_
      refine tx_then ?_
      refine tr_seq ?_
      refine tr_region ?_
      refine tl_step rfl (oj_val (y_move (fe_t rfl)) ?_)
      refine tl_step rfl (oj_val (y_move (fe_t rfl)) ?_)
      refine tl_step rfl (oj_val (y_move (fe_t rfl)) ?_)
      refine tl_step rfl (oj_val (y_as (y_conv Try.underlying41 Try.underlying153 (fe_t rfl)) (less_lo _)) ?_)
      refine tl_step rfl (oj_val (y_index Try.underlying33 Try.sizeOf153 (fe_t rfl) (fe_t rfl) (rdl_vec 0 rfl) (by rw [hvx, cU_len]; omega) (by decide) (by omega) (Nat.mul_one _)) ?_)
      refine tl_step rfl (oj_storeE1 (i := 0) Try.sizeOf153 (fe_t rfl) (fe_t rfl) rfl rfl rfl (by omega) (?_))
      refine tl_nil ?_
      refine tx_then ?_
      refine tr_region ?_
      refine tl_step rfl (oj_val (y_move (fe_t rfl)) ?_)
      refine tl_step rfl (oj_val (y_as (y_shr (fe_t rfl) fe_c (by decide)) (less_hi (by omega) (by omega))) ?_)
      refine tl_step rfl (oj_val (y_assign (fe_t rfl)) ?_)
      refine tl_nil ?_
      refine tx_in ?_
      refine tx_then ?_
      refine tr_region ?_
      refine tl_step rfl (oj_val (y_inc (fe_t rfl) fe_c (by omega)) ?_)
      refine tl_step rfl (oj_val (y_move (fe_t rfl)) ?_)
      refine tl_nil ?_
      apply tx_back4 (k + 1) (zs.set k (((x[k]'(by omega)) - cc) % 4294967296)) ((if (x[k]'(by omega)) - cc < 0 then 1 else 0)) (_)
      · exact (cov_cons (by first | rfl | exact v_int (by omega) | exact v_bool (by simp [*])) (cov_cons (by first | rfl | exact v_int (by omega) | exact v_bool (by simp [*])) (cov_nil)))
      · repeat (first | exact over_nil | refine over_put rfl ?_ | refine over_drop rfl ?_)
      · exact fun w h => h.pick [0] _ rfl (by decide)
      · refine ⟨⟨by omega, by rw [hvx, cU, cU, List.map_set], less_next hinv (by omega) (by rw [getD_ge (by omega)]) (by omega) (by split <;> omega) (by split <;> omega)⟩, by omega⟩
  · refine tr_exit ?_
    refine tx_then_exit ?_
    refine tx_then_exit ?_
    refine tx_in_exit ?_
    refine tx_then ?_
    refine tr_seq ?_
    refine tr_region ?_
    refine tl_step rfl (oj_val (y_move (fe_t rfl)) ?_)
    refine tl_step rfl (oj_val (y_assign (fe_t rfl)) ?_)
    refine tl_nil ?_
    refine tx_then ?_
    refine tr_ret ?_
    refine tx_ret (res1 Try.results125 (rok_t rfl)) (fun w' hS => ?_)
    have hke : k = x.length := by omega
    rw [hke] at hinv
    obtain ⟨e1, e2, e3⟩ := less_end hinv (by omega) hv
    rw [hvx] at hS
    exact ⟨(some ⟨g, 0, none⟩, n, zs), ⟨e1, e2, by dsimp only; omega, Nat.le_refl _⟩, rfl, hS.pick [0] _ rfl (by decide)⟩

end Go.Proofs.Ytcpdelkamckmfaa.Big
