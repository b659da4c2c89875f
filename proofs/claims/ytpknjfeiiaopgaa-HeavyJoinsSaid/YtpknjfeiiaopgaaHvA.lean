/- heavy.Right, less, BinarySearchFunc, Clone; WRight. -/
import Derived.Test.YtpknjfeiiaopgaaHvM
import Derived.Test.YtpknjfeiiaopgaaEP
namespace Go.Proofs.Ytpknjfeiiaopgaa.Heavy
open Go.RowKit Go.Proofs.Ytpknjfeiiaopgaa.E

set_option maxRecDepth 100000 in
set_option maxHeartbeats 2000000 in
theorem rightE (A : Option Addr) (n c : Nat) (l : List (Int × Int)) (w : World) (hr : Rd w A (l.flatMap c2)) (hn : l.length = n) (hm : n ≤ 140737488355328) {k : Int} :
    Calls Try.prog 85 #[(.int .i64 k), .slice A n c] w fun e w' => e = .returned (.bool (rB k l)) ∧ St w w' [] := by
  refine calls_tr Try.func85 Try.ntmps85 rfl rfl (St.refl _) ?_
  refine tr_seq ?_
  refine tr_region ?_
  refine tl_step rfl (oj_val (y_assign fe_c) ?_)
  refine tl_nil ?_
  refine tx_then ?_
  refine tr_seq ?_
  refine tr_seq ?_
  refine tr_region ?_
  refine tl_step rfl (oj_val (y_move (fe_t rfl)) ?_)
  refine tl_step rfl (oj_val (y_lss (fe_t rfl) fe_c) ?_)
  refine tl_step rfl (oj_val (y_move (fe_t rfl)) ?_)
  refine tl_splitp (d := 9) rfl (fun hq1 => ?_) (fun hq2 => ?_)
  · try (exfalso; omega)
    all_goals
      refine tl_skip rfl rfl rfl rfl ?_
      refine tl_skip rfl rfl rfl rfl ?_
      refine tl_step rfl (oj_val (y_pickt (fe_t rfl) fe_c) ?_)
      refine tl_step rfl (oj_val (y_move (fe_t rfl)) ?_)
      refine tl_skip rfl rfl rfl rfl ?_
      refine tl_skip rfl rfl rfl rfl ?_
      refine tl_skip rfl rfl rfl rfl ?_
      refine tl_skip rfl rfl rfl rfl ?_
      refine tl_step rfl (oj_val (y_pickt (fe_t rfl) fe_c) ?_)
      refine tl_nil ?_
      refine tx_then ?_
      refine tr_condt (fe_t rfl) ?_
      refine tr_seq ?_
      refine tr_region ?_
      refine tl_step rfl (oj_val (y_assign fe_c) ?_)
      refine tl_nil ?_
      refine tx_then ?_
      refine tr_ret ?_
      refine tx_then_ret ?_
      refine tx_ret (res1 Try.results85 (rok_t rfl)) (fun w' hS => ?_)
      exact ⟨ret_bool (rB_f (fun h => by have h1 := h.1; omega)).symm, hS.pick [] _ rfl (by decide)⟩
  · try (exfalso; omega)
    all_goals
      refine tl_want rfl rfl rfl (oj_val (y_move (fe_t rfl)) ?_)
      refine tl_want rfl rfl rfl (oj_val (y_gtr (fe_t rfl) fe_c) ?_)
      refine tl_step rfl (oj_val (y_pickf (fe_t rfl) (fe_t rfl)) ?_)
      refine tl_step rfl (oj_val (y_move (fe_t rfl)) ?_)
      refine tl_splitp (d := 13) rfl (fun hq3 => ?_) (fun hq4 => ?_)
      · try (exfalso; omega)
        all_goals
          refine tl_skip rfl rfl rfl rfl ?_
          refine tl_skip rfl rfl rfl rfl ?_
          refine tl_skip rfl rfl rfl rfl ?_
          refine tl_skip rfl rfl rfl rfl ?_
          refine tl_step rfl (oj_val (y_pickt (fe_t rfl) fe_c) ?_)
          refine tl_nil ?_
          refine tx_then ?_
          refine tr_condt (fe_t rfl) ?_
          refine tr_seq ?_
          refine tr_region ?_
          refine tl_step rfl (oj_val (y_assign fe_c) ?_)
          refine tl_nil ?_
          refine tx_then ?_
          refine tr_ret ?_
          refine tx_then_ret ?_
          refine tx_ret (res1 Try.results85 (rok_t rfl)) (fun w' hS => ?_)
          exact ⟨ret_bool (rB_f (fun h => by have h1 := h.1; omega)).symm, hS.pick [] _ rfl (by decide)⟩
      · try (exfalso; omega)
        all_goals
          refine tl_want rfl rfl rfl (oj_val (y_move (fe_t rfl)) ?_)
          refine tl_want rfl rfl rfl (oj_val (y_len Try.underlying87 (fe_t rfl)) ?_)
          refine tl_want rfl rfl rfl (oj_val (y_move (fe_t rfl)) ?_)
          refine tl_want rfl rfl rfl (oj_val (y_gtr (fe_t rfl) (fe_t rfl)) ?_)
          refine tl_step rfl (oj_val (y_pickf (fe_t rfl) (fe_t rfl)) ?_)
          refine tl_nil ?_
          refine tx_then ?_
          refine tr_condp (fe_t rfl) (fun hq5 => ?_) (fun hq6 => ?_)
          · try (exfalso; omega)
            all_goals
              refine tr_seq ?_
              refine tr_region ?_
              refine tl_step rfl (oj_val (y_assign fe_c) ?_)
              refine tl_nil ?_
              refine tx_then ?_
              refine tr_ret ?_
              refine tx_then_ret ?_
              refine tx_ret (res1 Try.results85 (rok_t rfl)) (fun w' hS => ?_)
              exact ⟨ret_bool (rB_f (fun h => by have h1 := h.1; omega)).symm, hS.pick [] _ rfl (by decide)⟩
          · try (exfalso; omega)
            all_goals
              refine tr_skip ?_
              refine tx_then ?_
              refine tr_seq ?_
              refine tr_seq ?_
              refine tr_region ?_
              refine tl_step rfl (oj_val (y_move (fe_t rfl)) ?_)
              refine tl_step rfl (oj_val (y_len Try.underlying87 (fe_t rfl)) ?_)
              refine tl_step rfl (oj_val (y_move fe_c) ?_)
              refine tl_nil ?_
              refine tx_then ?_
              refine tr_block ?_
              refine tr_loop1 [4, 5, 6, 21, 22, 23, 24, 25, 26, 27, 28, 29, 30, 31, 32, 33, 34, 35, 36, 37, 38, 39, 40, 41, 42, 43, 44, 45, 46, 47, 48, 49] (fun (i : Nat) => [(21, .int .i64 (i : Int))]) 0 (fun (i : Nat) => []) (fun (i : Nat) => i ≤ n ∧ okTo l i) (fun (i : Nat) => n - i) (0) (cov_cons (by first | rfl | exact v_int (by omega) | exact v_bool (by simp [*])) (cov_nil)) (fun w h => h) ?_ ?_
              · try dsimp only
                exact ⟨by omega, okTo_zero⟩
              intro i hp
              obtain ⟨hi, hok⟩ := hp
              refine tr_seq ?_
              refine tr_region ?_
              refine tl_step rfl (oj_val (y_lss (fe_t rfl) (fe_t rfl)) ?_)
              refine tl_nil ?_
              refine tx_then ?_
              refine tr_seq ?_
              refine tr_condp (fe_t rfl) (fun hq7 => ?_) (fun hq8 => ?_)
              · try (exfalso; omega)
                all_goals
                  refine tr_skip ?_
                  refine tx_then ?_
                  refine tr_seq ?_
                  refine tr_block ?_
                  refine tr_seq ?_
                  refine tr_region ?_
                  refine tl_step rfl (oj_val (y_move (fe_t rfl)) ?_)
                  refine tl_step rfl (oj_val (y_index Try.underlying87 Try.sizeOf92 (fe_t rfl) (fe_t rfl) (rdl_out hr) (lenK hn) (by decide) (by omega) rfl) ?_)
                  refine tl_step rfl (oj_val (y_ldA (cs := [(.int .i64 (k1 l i)), (.int .i64 (k2 l i))]) Try.isAgg92 Try.sizeOf92 (fe_t rfl) (rdl_out hr) rfl (by decide) (getK (by omega))) ?_)
                  refine tl_step rfl (oj_alloc Try.zeroValue92 (fun bc => ?_))
                  refine tl_step rfl (oj_val (y_assign (fe_t rfl)) ?_)
                  refine tl_step rfl (oj_storeW 0 Try.sizeOf92 (fe_t rfl) (fe_t rfl) rfl rfl rfl rfl rfl (?_))
                  refine tl_nil ?_
                  refine tx_then ?_
                  refine tr_seq ?_
                  refine tb_draw 23 (sel _ [0]) (fun w h => h.sel _ rfl (by decide)) rfl ?_
                  refine tb_float (i := 0) rfl (by kernel_rfl) rfl (wants_none rfl) (yq_of (y_fieldAddr (td := 3) Try.underlying92 rfl rfl Try.sizeOf3 (o' := 1) rfl (fe_t rfl))) ?_
                  refine tb_float (i := 1) rfl (by kernel_rfl) rfl (wants_none rfl) (yq_of (y_ldb 0 Try.isAgg3 (fe_t rfl) rfl rfl)) ?_
                  refine tb_float (i := 2) rfl (by kernel_rfl) rfl (wants_none rfl) (yq_of (y_lss (fe_t rfl) fe_c)) ?_
                  refine tb_float (i := 3) rfl (by kernel_rfl) rfl (wants_none rfl) (yq_of (y_move (fe_t rfl))) ?_
                  refine tb_splitp (d := 29) rfl (fun hq9 => ?_) (fun hq10 => ?_)
                  · try (exfalso; omega)
                    all_goals
                      refine tb_skip (i := 4) rfl (by kernel_rfl) rfl (wants_f rfl rfl rfl rfl) ?_
                      refine tb_skip (i := 5) rfl (by kernel_rfl) rfl (wants_f rfl rfl rfl rfl) ?_
                      refine tb_skip (i := 6) rfl (by kernel_rfl) rfl (wants_f rfl rfl rfl rfl) ?_
                      refine tb_float (i := 7) rfl (by kernel_rfl) rfl (wants_none rfl) (yq_of (y_pickt (fe_t rfl) fe_c)) ?_
                      refine tb_float (i := 8) rfl (by kernel_rfl) rfl (wants_none rfl) (yq_of (y_move (fe_t rfl))) ?_
                      refine tb_skip (i := 9) rfl (by kernel_rfl) rfl (wants_f rfl rfl rfl rfl) ?_
                      refine tb_skip (i := 10) rfl (by kernel_rfl) rfl (wants_f rfl rfl rfl rfl) ?_
                      refine tb_skip (i := 11) rfl (by kernel_rfl) rfl (wants_f rfl rfl rfl rfl) ?_
                      refine tb_skip (i := 12) rfl (by kernel_rfl) rfl (wants_undef rfl rfl rfl) ?_
                      refine tb_skip (i := 13) rfl (by kernel_rfl) rfl (wants_undef rfl rfl rfl) ?_
                      refine tb_skip (i := 14) rfl (by kernel_rfl) rfl (wants_undef rfl rfl rfl) ?_
                      refine tb_skip (i := 15) rfl (by kernel_rfl) rfl (wants_undef rfl rfl rfl) ?_
                      refine tb_skip (i := 16) rfl (by kernel_rfl) rfl (wants_undef rfl rfl rfl) ?_
                      refine tb_skip (i := 17) rfl (by kernel_rfl) rfl (wants_undef rfl rfl rfl) ?_
                      refine tb_skip (i := 18) rfl (by kernel_rfl) rfl (wants_undef rfl rfl rfl) ?_
                      refine tb_skip (i := 19) rfl (by kernel_rfl) rfl (wants_undef rfl rfl rfl) ?_
                      refine tb_skip (i := 20) rfl (by kernel_rfl) rfl (wants_undef rfl rfl rfl) ?_
                      refine tb_skip (i := 21) rfl (by kernel_rfl) rfl (wants_f rfl rfl rfl rfl) ?_
                      refine tb_float (i := 22) rfl (by kernel_rfl) rfl (wants_none rfl) (yq_of (y_pickt (fe_t rfl) fe_c)) ?_
                      refine tb_done (by kernel_rfl) ?_
                      refine tx_then ?_
                      refine tr_condt (fe_t rfl) ?_
                      refine tr_seq ?_
                      refine tr_region ?_
                      refine tl_step rfl (oj_val (y_assign fe_c) ?_)
                      refine tl_nil ?_
                      refine tx_then ?_
                      refine tr_ret ?_
                      refine tx_in_ret ?_
                      refine tx_then_ret ?_
                      refine tx_then_ret ?_
                      refine tx_in_ret ?_
                      refine tx_then_ret ?_
                      refine tx_ret (res1 Try.results85 (rok_t rfl)) (fun w' hS => ?_)
                      exact ⟨ret_bool (rB_f (rt_not (i := i) (by omega) (fun h => by unfold okAt at h; omega))).symm, hS.pick [] _ rfl (by decide)⟩
                  · try (exfalso; omega)
                    all_goals
                      refine tb_float (i := 4) rfl (by kernel_rfl) rfl (wants_t rfl rfl rfl) (yq_of (y_fieldAddr (td := 3) Try.underlying92 rfl rfl Try.sizeOf3 (o' := 1) rfl (fe_t rfl))) ?_
                      refine tb_float (i := 5) rfl (by kernel_rfl) rfl (wants_t rfl rfl rfl) (yq_of (y_ldb 0 Try.isAgg3 (fe_t rfl) rfl rfl)) ?_
                      refine tb_float (i := 6) rfl (by kernel_rfl) rfl (wants_t rfl rfl rfl) (yq_of (y_gtr (fe_t rfl) fe_c)) ?_
                      refine tb_float (i := 7) rfl (by kernel_rfl) rfl (wants_none rfl) (yq_of (y_pickf (fe_t rfl) (fe_t rfl))) ?_
                      refine tb_float (i := 8) rfl (by kernel_rfl) rfl (wants_none rfl) (yq_of (y_move (fe_t rfl))) ?_
                      refine tb_splitp (d := 34) rfl (fun hq11 => ?_) (fun hq12 => ?_)
                      · try (exfalso; omega)
                        all_goals
                          refine tb_skip (i := 9) rfl (by kernel_rfl) rfl (wants_f rfl rfl rfl rfl) ?_
                          refine tb_skip (i := 10) rfl (by kernel_rfl) rfl (wants_f rfl rfl rfl rfl) ?_
                          refine tb_skip (i := 11) rfl (by kernel_rfl) rfl (wants_f rfl rfl rfl rfl) ?_
                          refine tb_skip (i := 12) rfl (by kernel_rfl) rfl (wants_undef rfl rfl rfl) ?_
                          refine tb_skip (i := 13) rfl (by kernel_rfl) rfl (wants_undef rfl rfl rfl) ?_
                          refine tb_skip (i := 14) rfl (by kernel_rfl) rfl (wants_undef rfl rfl rfl) ?_
                          refine tb_skip (i := 15) rfl (by kernel_rfl) rfl (wants_undef rfl rfl rfl) ?_
                          refine tb_skip (i := 16) rfl (by kernel_rfl) rfl (wants_undef rfl rfl rfl) ?_
                          refine tb_skip (i := 17) rfl (by kernel_rfl) rfl (wants_undef rfl rfl rfl) ?_
                          refine tb_skip (i := 18) rfl (by kernel_rfl) rfl (wants_undef rfl rfl rfl) ?_
                          refine tb_skip (i := 19) rfl (by kernel_rfl) rfl (wants_undef rfl rfl rfl) ?_
                          refine tb_skip (i := 20) rfl (by kernel_rfl) rfl (wants_undef rfl rfl rfl) ?_
                          refine tb_skip (i := 21) rfl (by kernel_rfl) rfl (wants_f rfl rfl rfl rfl) ?_
                          refine tb_float (i := 22) rfl (by kernel_rfl) rfl (wants_none rfl) (yq_of (y_pickt (fe_t rfl) fe_c)) ?_
                          refine tb_done (by kernel_rfl) ?_
                          refine tx_then ?_
                          refine tr_condt (fe_t rfl) ?_
                          refine tr_seq ?_
                          refine tr_region ?_
                          refine tl_step rfl (oj_val (y_assign fe_c) ?_)
                          refine tl_nil ?_
                          refine tx_then ?_
                          refine tr_ret ?_
                          refine tx_in_ret ?_
                          refine tx_then_ret ?_
                          refine tx_then_ret ?_
                          refine tx_in_ret ?_
                          refine tx_then_ret ?_
                          refine tx_ret (res1 Try.results85 (rok_t rfl)) (fun w' hS => ?_)
                          exact ⟨ret_bool (rB_f (rt_not (i := i) (by omega) (fun h => by unfold okAt at h; omega))).symm, hS.pick [] _ rfl (by decide)⟩
                      · try (exfalso; omega)
                        all_goals
                          refine tb_float (i := 9) rfl (by kernel_rfl) rfl (wants_t rfl rfl rfl) (yq_of (y_move (fe_t rfl))) ?_
                          refine tb_float (i := 10) rfl (by kernel_rfl) rfl (wants_t rfl rfl rfl) (yq_of (y_gtr (fe_t rfl) fe_c)) ?_
                          refine tb_float (i := 11) rfl (by kernel_rfl) rfl (wants_t rfl rfl rfl) (yq_of (y_move (fe_t rfl))) ?_
                          refine tb_splitp (d := 37) rfl (fun hq13 => ?_) (fun hq14 => ?_)
                          · try (exfalso; omega)
                            all_goals
                              refine tb_float (i := 12) rfl (by kernel_rfl) rfl (wants_t rfl rfl rfl) (yq_of (y_fieldAddr (td := 3) Try.underlying92 rfl rfl Try.sizeOf3 (o' := 0) rfl (fe_t rfl))) ?_
                              refine tb_float (i := 13) rfl (by kernel_rfl) rfl (wants_t rfl rfl rfl) (yq_of (y_ldb 0 Try.isAgg3 (fe_t rfl) rfl rfl)) ?_
                              refine tb_float (i := 14) rfl (by kernel_rfl) rfl (wants_t rfl rfl rfl) (yq_of (y_move (fe_t rfl))) ?_
                              refine tb_float (i := 15) rfl (by kernel_rfl) rfl (wants_t rfl rfl rfl) (yq_of (y_move (fe_t rfl))) ?_
                              refine tb_float (i := 16) rfl (by kernel_rfl) rfl (wants_t rfl rfl rfl) (yq_of (y_sub (fe_t rfl) fe_c (by omega))) ?_
                              refine tb_float (i := 17) rfl (by kernel_rfl) rfl (wants_t rfl rfl rfl) (yq_of (y_index (j := i - 1) Try.underlying87 Try.sizeOf92 (fe_t rfl) (fe_i (by omega) rfl) (rdl_out hr) (lenK hn) (by decide) (by omega) rfl)) ?_
                              refine tb_float (i := 18) rfl (by kernel_rfl) rfl (wants_t rfl rfl rfl) (yq_of (y_fieldAddrE (td := 3) Try.underlying92 rfl rfl Try.sizeOf3 rfl (fe_t rfl) (rdl_out hr) (by rw [lenK hn]; omega))) ?_
                              refine tb_float (i := 19) rfl (by kernel_rfl) rfl (wants_t rfl rfl rfl) (yq_of (y_ld Try.isAgg3 (fe_t rfl) (rdl_out hr) (getK1 (by omega)))) ?_
                              refine tb_float (i := 20) rfl (by kernel_rfl) rfl (wants_t rfl rfl rfl) (yq_of (y_leq (fe_t rfl) (fe_t rfl))) ?_
                              refine tb_float (i := 21) rfl (by kernel_rfl) rfl (wants_t rfl rfl rfl) (yq_of (y_pickt (fe_t rfl) (fe_t rfl))) ?_
                              refine tb_float (i := 22) rfl (by kernel_rfl) rfl (wants_none rfl) (yq_of (y_pickf (fe_t rfl) (fe_t rfl))) ?_
                              refine tb_done (by kernel_rfl) ?_
                              refine tx_then ?_
                              refine tr_condp (fe_t rfl) (fun hq15 => ?_) (fun hq16 => ?_)
                              · try (exfalso; omega)
                                all_goals
                                  refine tr_seq ?_
                                  refine tr_region ?_
                                  refine tl_step rfl (oj_val (y_assign fe_c) ?_)
                                  refine tl_nil ?_
                                  refine tx_then ?_
                                  refine tr_ret ?_
                                  refine tx_in_ret ?_
                                  refine tx_then_ret ?_
                                  refine tx_then_ret ?_
                                  refine tx_in_ret ?_
                                  refine tx_then_ret ?_
                                  refine tx_ret (res1 Try.results85 (rok_t rfl)) (fun w' hS => ?_)
                                  exact ⟨ret_bool (rB_f (rt_not (i := i) (by omega) (fun h => by unfold okAt at h; omega))).symm, hS.pick [] _ rfl (by decide)⟩
                              · try (exfalso; omega)
                                all_goals
                                  refine tr_skip ?_
                                  refine tx_in ?_
                                  refine tx_then ?_
                                  refine tr_region ?_
                                  refine tl_step rfl (oj_val (y_inc (fe_t rfl) fe_c (by omega)) ?_)
                                  refine tl_step rfl (oj_val (y_move (fe_t rfl)) ?_)
                                  refine tl_nil ?_
                                  apply tx_back1 (i + 1)
                                  · exact (cov_cons (by first | rfl | exact v_int (by omega) | exact v_bool (by simp [*])) (cov_nil))
                                  · repeat (first | exact over_nil | refine over_put rfl ?_ | refine over_drop rfl ?_)
                                  · exact fun w h => h.pick [] _ rfl (by decide)
                                  · exact ⟨⟨by omega, okTo_succ.2 ⟨hok, by unfold okAt; omega⟩⟩, by omega⟩
                          · try (exfalso; omega)
                            all_goals
                              refine tb_skip (i := 12) rfl (by kernel_rfl) rfl (wants_f rfl rfl rfl rfl) ?_
                              refine tb_skip (i := 13) rfl (by kernel_rfl) rfl (wants_f rfl rfl rfl rfl) ?_
                              refine tb_skip (i := 14) rfl (by kernel_rfl) rfl (wants_f rfl rfl rfl rfl) ?_
                              refine tb_skip (i := 15) rfl (by kernel_rfl) rfl (wants_f rfl rfl rfl rfl) ?_
                              refine tb_skip (i := 16) rfl (by kernel_rfl) rfl (wants_f rfl rfl rfl rfl) ?_
                              refine tb_skip (i := 17) rfl (by kernel_rfl) rfl (wants_f rfl rfl rfl rfl) ?_
                              refine tb_skip (i := 18) rfl (by kernel_rfl) rfl (wants_f rfl rfl rfl rfl) ?_
                              refine tb_skip (i := 19) rfl (by kernel_rfl) rfl (wants_f rfl rfl rfl rfl) ?_
                              refine tb_skip (i := 20) rfl (by kernel_rfl) rfl (wants_f rfl rfl rfl rfl) ?_
                              refine tb_float (i := 21) rfl (by kernel_rfl) rfl (wants_t rfl rfl rfl) (yq_of (y_pickf (fe_t rfl) fe_c)) ?_
                              refine tb_float (i := 22) rfl (by kernel_rfl) rfl (wants_none rfl) (yq_of (y_pickf (fe_t rfl) (fe_t rfl))) ?_
                              refine tb_done (by kernel_rfl) ?_
                              refine tx_then ?_
                              refine tr_condf (fe_t rfl) ?_
                              refine tr_skip ?_
                              refine tx_in ?_
                              refine tx_then ?_
                              refine tr_region ?_
                              refine tl_step rfl (oj_val (y_inc (fe_t rfl) fe_c (by omega)) ?_)
                              refine tl_step rfl (oj_val (y_move (fe_t rfl)) ?_)
                              refine tl_nil ?_
                              apply tx_back1 (i + 1)
                              · exact (cov_cons (by first | rfl | exact v_int (by omega) | exact v_bool (by simp [*])) (cov_nil))
                              · repeat (first | exact over_nil | refine over_put rfl ?_ | refine over_drop rfl ?_)
                              · exact fun w h => h.pick [] _ rfl (by decide)
                              · exact ⟨⟨by omega, okTo_succ.2 ⟨hok, by unfold okAt; omega⟩⟩, by omega⟩
              · try (exfalso; omega)
                all_goals
                  refine tr_exit ?_
                  refine tx_then_exit ?_
                  refine tx_then_exit ?_
                  refine tx_in_exit ?_
                  refine tx_then ?_
                  refine tr_seq ?_
                  refine tr_region ?_
                  refine tl_step rfl (oj_val (y_assign fe_c) ?_)
                  refine tl_nil ?_
                  refine tx_then ?_
                  refine tr_ret ?_
                  refine tx_ret (res1 Try.results85 (rok_t rfl)) (fun w' hS => ?_)
                  exact ⟨ret_bool (rB_t ⟨by omega, by rw [show l.length = i by omega]; exact hok⟩).symm, hS.pick [] _ rfl (by decide)⟩

set_option maxRecDepth 100000 in
set_option maxHeartbeats 2000000 in
theorem wrightE (A : Option Addr) (n c : Nat) (l : List (Int × Int)) (w : World) (hr : Rd w A (l.flatMap c2)) (hn : l.length = n) (hm : n ≤ 140737488355328) {k : Int} :
    Calls Try.prog 91 #[(.int .i64 k), .slice A n c] w fun e w' => e = .returned (.bool (rB k l)) ∧ St w w' [] := by
  refine calls_tr Try.func91 Try.ntmps91 rfl rfl (St.refl _) ?_
  refine tr_seq ?_
  refine tr_region ?_
  refine tl_step rfl (oj_val (y_assign fe_c) ?_)
  refine tl_nil ?_
  refine tx_then ?_
  refine tr_seq ?_
  refine tr_region ?_
  refine tl_step rfl (oj_val (y_move (fe_t rfl)) ?_)
  refine tl_step rfl (oj_val (y_gtr (fe_t rfl) fe_c) ?_)
  refine tl_step rfl (oj_val (y_move (fe_t rfl)) ?_)
  refine tl_splitp (d := 10) rfl (fun hq1 => ?_) (fun hq2 => ?_)
  · try (exfalso; omega)
    all_goals
      refine tl_want rfl rfl rfl (oj_val (y_move (fe_t rfl)) ?_)
      refine tl_want rfl rfl rfl (oj_val (y_leq (fe_t rfl) fe_c) ?_)
      refine tl_step rfl (oj_val (y_pickt (fe_t rfl) (fe_t rfl)) ?_)
      refine tl_step rfl (oj_val (y_move (fe_t rfl)) ?_)
      refine tl_splitp (d := 14) rfl (fun hq3 => ?_) (fun hq4 => ?_)
      · try (exfalso; omega)
        all_goals
          refine tl_want rfl rfl rfl (oj_val (y_move (fe_t rfl)) ?_)
          refine tl_want rfl rfl rfl (oj_val (y_len Try.underlying87 (fe_t rfl)) ?_)
          refine tl_want rfl rfl rfl (oj_val (y_move (fe_t rfl)) ?_)
          refine tl_want rfl rfl rfl (oj_val (y_leq (fe_t rfl) (fe_t rfl)) ?_)
          refine tl_step rfl (oj_val (y_pickt (fe_t rfl) (fe_t rfl)) ?_)
          refine tl_step rfl (oj_val (y_assign (fe_t rfl)) ?_)
          refine tl_nil ?_
          refine tx_then ?_
          refine tr_seq ?_
          refine tr_seq ?_
          refine tr_region ?_
          refine tl_step rfl (oj_val (y_move (fe_t rfl)) ?_)
          refine tl_step rfl (oj_val (y_len Try.underlying87 (fe_t rfl)) ?_)
          refine tl_step rfl (oj_val (y_move fe_c) ?_)
          refine tl_nil ?_
          refine tx_then ?_
          refine tr_block ?_
          refine tr_loop2 [5, 6, 7, 22, 23, 24, 25, 26, 27, 28, 29, 30, 31, 32, 33, 34, 35, 36, 37, 38, 39, 40, 41, 42, 43, 44, 45, 46, 47, 48, 49, 50, 51, 52, 53] (fun (i : Nat) (b : Bool) => [(22, .int .i64 (i : Int)), (5, .bool b)]) 0 (fun (i : Nat) (b : Bool) => []) (fun (i : Nat) (b : Bool) => i ≤ n ∧ (b = true ↔ (1 ≤ k ∧ k ≤ 400 ∧ (l.length : Int) ≤ k) ∧ okTo l i)) (fun (i : Nat) (b : Bool) => n - i) (0) (_) (cov_cons (by first | rfl | exact v_int (by omega) | exact v_bool (by simp [*])) (cov_cons (by first | rfl | exact v_int (by omega) | exact v_bool (by simp [*])) (cov_nil))) (fun w h => h) ?_ ?_
          · try dsimp only
            refine ⟨by omega, ⟨fun h => ⟨by first | omega | (simp at h; omega) | (simp at h; done), okTo_zero⟩, fun h => ?_⟩⟩
            first
              | rfl
              | exact decide_eq_true (by omega)
              | (exfalso; have h1 := h.1; omega)
          intro i b hp
          obtain ⟨hi, hb⟩ := hp
          refine tr_seq ?_
          refine tr_region ?_
          refine tl_step rfl (oj_val (y_lss (fe_t rfl) (fe_t rfl)) ?_)
          refine tl_nil ?_
          refine tx_then ?_
          refine tr_seq ?_
          refine tr_condp (fe_t rfl) (fun hq5 => ?_) (fun hq6 => ?_)
          · try (exfalso; omega)
            all_goals
              refine tr_skip ?_
              refine tx_then ?_
              refine tr_seq ?_
              refine tr_block ?_
              refine tr_seq ?_
              refine tr_region ?_
              refine tl_step rfl (oj_val (y_move (fe_t rfl)) ?_)
              refine tl_step rfl (oj_val (y_index Try.underlying87 Try.sizeOf92 (fe_t rfl) (fe_t rfl) (rdl_out hr) (lenK hn) (by decide) (by omega) rfl) ?_)
              refine tl_step rfl (oj_val (y_ldA (cs := [(.int .i64 (k1 l i)), (.int .i64 (k2 l i))]) Try.isAgg92 Try.sizeOf92 (fe_t rfl) (rdl_out hr) rfl (by decide) (getK (by omega))) ?_)
              refine tl_step rfl (oj_alloc Try.zeroValue92 (fun bc => ?_))
              refine tl_step rfl (oj_val (y_assign (fe_t rfl)) ?_)
              refine tl_step rfl (oj_storeW 0 Try.sizeOf92 (fe_t rfl) (fe_t rfl) rfl rfl rfl rfl rfl (?_))
              refine tl_nil ?_
              refine tx_then ?_
              refine tb_draw 27 (sel _ [0]) (fun w h => h.sel _ rfl (by decide)) rfl ?_
              refine tb_float (i := 0) rfl (by kernel_rfl) rfl (wants_none rfl) (yq_of (y_move (fe_t rfl))) ?_
              refine tb_float (i := 1) rfl (by kernel_rfl) rfl (wants_none rfl) (yq_of (y_move (fe_t rfl))) ?_
              refine tb_split (d := 28) rfl (fun hq7 => ?_) (fun hq8 => ?_)
              · try (exfalso; omega)
                all_goals
                  refine tb_float (i := 2) rfl (by kernel_rfl) rfl (wants_t rfl rfl rfl) (yq_of (y_fieldAddr (td := 3) Try.underlying92 rfl rfl Try.sizeOf3 (o' := 1) rfl (fe_t rfl))) ?_
                  refine tb_float (i := 3) rfl (by kernel_rfl) rfl (wants_t rfl rfl rfl) (yq_of (y_ldb 0 Try.isAgg3 (fe_t rfl) rfl rfl)) ?_
                  refine tb_float (i := 4) rfl (by kernel_rfl) rfl (wants_t rfl rfl rfl) (yq_of (y_gtr (fe_t rfl) fe_c)) ?_
                  refine tb_float (i := 5) rfl (by kernel_rfl) rfl (wants_none rfl) (yq_of (y_pickt (fe_t rfl) (fe_t rfl))) ?_
                  refine tb_float (i := 6) rfl (by kernel_rfl) rfl (wants_none rfl) (yq_of (y_move (fe_t rfl))) ?_
                  refine tb_splitp (d := 33) rfl (fun hq9 => ?_) (fun hq10 => ?_)
                  · try (exfalso; omega)
                    all_goals
                      refine tb_float (i := 7) rfl (by kernel_rfl) rfl (wants_t rfl rfl rfl) (yq_of (y_fieldAddr (td := 3) Try.underlying92 rfl rfl Try.sizeOf3 (o' := 1) rfl (fe_t rfl))) ?_
                      refine tb_float (i := 8) rfl (by kernel_rfl) rfl (wants_t rfl rfl rfl) (yq_of (y_ldb 0 Try.isAgg3 (fe_t rfl) rfl rfl)) ?_
                      refine tb_float (i := 9) rfl (by kernel_rfl) rfl (wants_t rfl rfl rfl) (yq_of (y_leq (fe_t rfl) fe_c)) ?_
                      refine tb_float (i := 10) rfl (by kernel_rfl) rfl (wants_none rfl) (yq_of (y_pickt (fe_t rfl) (fe_t rfl))) ?_
                      refine tb_float (i := 11) rfl (by kernel_rfl) rfl (wants_none rfl) (yq_of (y_move (fe_t rfl))) ?_
                      refine tb_splitp (d := 38) rfl (fun hq11 => ?_) (fun hq12 => ?_)
                      · try (exfalso; omega)
                        all_goals
                          refine tb_float (i := 12) rfl (by kernel_rfl) rfl (wants_t rfl rfl rfl) (yq_of (y_move (fe_t rfl))) ?_
                          refine tb_float (i := 13) rfl (by kernel_rfl) rfl (wants_t rfl rfl rfl) (yq_of (y_eq (fe_t rfl) fe_c)) ?_
                          refine tb_float (i := 14) rfl (by kernel_rfl) rfl (wants_t rfl rfl rfl) (yq_of (y_move (fe_t rfl))) ?_
                          refine tb_splitp (d := 41) rfl (fun hq13 => ?_) (fun hq14 => ?_)
                          · try (exfalso; omega)
                            all_goals
                              refine tb_skip (i := 15) rfl (by kernel_rfl) rfl (wants_f rfl rfl rfl rfl) ?_
                              refine tb_skip (i := 16) rfl (by kernel_rfl) rfl (wants_f rfl rfl rfl rfl) ?_
                              refine tb_skip (i := 17) rfl (by kernel_rfl) rfl (wants_f rfl rfl rfl rfl) ?_
                              refine tb_skip (i := 18) rfl (by kernel_rfl) rfl (wants_f rfl rfl rfl rfl) ?_
                              refine tb_skip (i := 19) rfl (by kernel_rfl) rfl (wants_f rfl rfl rfl rfl) ?_
                              refine tb_skip (i := 20) rfl (by kernel_rfl) rfl (wants_f rfl rfl rfl rfl) ?_
                              refine tb_skip (i := 21) rfl (by kernel_rfl) rfl (wants_f rfl rfl rfl rfl) ?_
                              refine tb_skip (i := 22) rfl (by kernel_rfl) rfl (wants_f rfl rfl rfl rfl) ?_
                              refine tb_skip (i := 23) rfl (by kernel_rfl) rfl (wants_f rfl rfl rfl rfl) ?_
                              refine tb_float (i := 24) rfl (by kernel_rfl) rfl (wants_t rfl rfl rfl) (yq_of (y_pickt (fe_t rfl) fe_c)) ?_
                              refine tb_float (i := 25) rfl (by kernel_rfl) rfl (wants_none rfl) (yq_of (y_pickt (fe_t rfl) (fe_t rfl))) ?_
                              refine tb_float (i := 26) rfl (by kernel_rfl) rfl (wants_none rfl) (yq_of (y_assign (fe_t rfl))) ?_
                              refine tb_done (by kernel_rfl) ?_
                              refine tx_in ?_
                              refine tx_then ?_
                              refine tr_region ?_
                              refine tl_step rfl (oj_val (y_inc (fe_t rfl) fe_c (by omega)) ?_)
                              refine tl_step rfl (oj_val (y_move (fe_t rfl)) ?_)
                              refine tl_nil ?_
                              apply tx_back2 (i + 1) (_)
                              · exact (cov_cons (by first | rfl | exact v_int (by omega) | exact v_bool (by simp [*])) (cov_cons (by first | rfl | exact v_int (by omega) | exact v_bool (by simp [*])) (cov_nil)))
                              · repeat (first | exact over_nil | refine over_put rfl ?_ | refine over_drop rfl ?_)
                              · exact fun w h => h.pick [] _ rfl (by decide)
                              · refine ⟨⟨by omega, ?_⟩, by omega⟩
                                rw [okTo_succ]
                                constructor
                                · intro h
                                  first
                                    | exact ⟨(hb.1 ‹b = true›).1, (hb.1 ‹b = true›).2, by unfold okAt; first | omega | (simp only [decide_eq_true_eq] at h; omega)⟩
                                    | (simp at h; done)
                                    | (exfalso; simp_all; done)
                                · rintro ⟨h1, h2, h3⟩
                                  unfold okAt at h3
                                  first
                                    | rfl
                                    | exact decide_eq_true (by omega)
                                    | (exfalso; omega)
                                    | exact absurd (hb.2 ⟨h1, h2⟩) (by simp [*])
                          · try (exfalso; omega)
                            all_goals
                              refine tb_float (i := 15) rfl (by kernel_rfl) rfl (wants_t rfl rfl rfl) (yq_of (y_move (fe_t rfl))) ?_
                              refine tb_float (i := 16) rfl (by kernel_rfl) rfl (wants_t rfl rfl rfl) (yq_of (y_move (fe_t rfl))) ?_
                              refine tb_float (i := 17) rfl (by kernel_rfl) rfl (wants_t rfl rfl rfl) (yq_of (y_sub (fe_t rfl) fe_c (by omega))) ?_
                              refine tb_float (i := 18) rfl (by kernel_rfl) rfl (wants_t rfl rfl rfl) (yq_of (y_index (j := i - 1) Try.underlying87 Try.sizeOf92 (fe_t rfl) (fe_i (by omega) rfl) (rdl_out hr) (lenK hn) (by decide) (by omega) rfl)) ?_
                              refine tb_float (i := 19) rfl (by kernel_rfl) rfl (wants_t rfl rfl rfl) (yq_of (y_fieldAddrE (td := 3) Try.underlying92 rfl rfl Try.sizeOf3 rfl (fe_t rfl) (rdl_out hr) (by rw [lenK hn]; omega))) ?_
                              refine tb_float (i := 20) rfl (by kernel_rfl) rfl (wants_t rfl rfl rfl) (yq_of (y_ld Try.isAgg3 (fe_t rfl) (rdl_out hr) (getK1 (by omega)))) ?_
                              refine tb_float (i := 21) rfl (by kernel_rfl) rfl (wants_t rfl rfl rfl) (yq_of (y_fieldAddr (td := 3) Try.underlying92 rfl rfl Try.sizeOf3 (o' := 0) rfl (fe_t rfl))) ?_
                              refine tb_float (i := 22) rfl (by kernel_rfl) rfl (wants_t rfl rfl rfl) (yq_of (y_ldb 0 Try.isAgg3 (fe_t rfl) rfl rfl)) ?_
                              refine tb_float (i := 23) rfl (by kernel_rfl) rfl (wants_t rfl rfl rfl) (yq_of (y_lss (fe_t rfl) (fe_t rfl))) ?_
                              refine tb_float (i := 24) rfl (by kernel_rfl) rfl (wants_t rfl rfl rfl) (yq_of (y_pickf (fe_t rfl) (fe_t rfl))) ?_
                              refine tb_float (i := 25) rfl (by kernel_rfl) rfl (wants_none rfl) (yq_of (y_pickt (fe_t rfl) (fe_t rfl))) ?_
                              refine tb_float (i := 26) rfl (by kernel_rfl) rfl (wants_none rfl) (yq_of (y_assign (fe_t rfl))) ?_
                              refine tb_done (by kernel_rfl) ?_
                              refine tx_in ?_
                              refine tx_then ?_
                              refine tr_region ?_
                              refine tl_step rfl (oj_val (y_inc (fe_t rfl) fe_c (by omega)) ?_)
                              refine tl_step rfl (oj_val (y_move (fe_t rfl)) ?_)
                              refine tl_nil ?_
                              apply tx_back2 (i + 1) (_)
                              · exact (cov_cons (by first | rfl | exact v_int (by omega) | exact v_bool (by simp [*])) (cov_cons (by first | rfl | exact v_int (by omega) | exact v_bool (by simp [*])) (cov_nil)))
                              · repeat (first | exact over_nil | refine over_put rfl ?_ | refine over_drop rfl ?_)
                              · exact fun w h => h.pick [] _ rfl (by decide)
                              · refine ⟨⟨by omega, ?_⟩, by omega⟩
                                rw [okTo_succ]
                                constructor
                                · intro h
                                  first
                                    | exact ⟨(hb.1 ‹b = true›).1, (hb.1 ‹b = true›).2, by unfold okAt; first | omega | (simp only [decide_eq_true_eq] at h; omega)⟩
                                    | (simp at h; done)
                                    | (exfalso; simp_all; done)
                                · rintro ⟨h1, h2, h3⟩
                                  unfold okAt at h3
                                  first
                                    | rfl
                                    | exact decide_eq_true (by omega)
                                    | (exfalso; omega)
                                    | exact absurd (hb.2 ⟨h1, h2⟩) (by simp [*])
                      · try (exfalso; omega)
                        all_goals
                          refine tb_skip (i := 12) rfl (by kernel_rfl) rfl (wants_f rfl rfl rfl rfl) ?_
                          refine tb_skip (i := 13) rfl (by kernel_rfl) rfl (wants_f rfl rfl rfl rfl) ?_
                          refine tb_skip (i := 14) rfl (by kernel_rfl) rfl (wants_f rfl rfl rfl rfl) ?_
                          refine tb_skip (i := 15) rfl (by kernel_rfl) rfl (wants_undef rfl rfl rfl) ?_
                          refine tb_skip (i := 16) rfl (by kernel_rfl) rfl (wants_undef rfl rfl rfl) ?_
                          refine tb_skip (i := 17) rfl (by kernel_rfl) rfl (wants_undef rfl rfl rfl) ?_
                          refine tb_skip (i := 18) rfl (by kernel_rfl) rfl (wants_undef rfl rfl rfl) ?_
                          refine tb_skip (i := 19) rfl (by kernel_rfl) rfl (wants_undef rfl rfl rfl) ?_
                          refine tb_skip (i := 20) rfl (by kernel_rfl) rfl (wants_undef rfl rfl rfl) ?_
                          refine tb_skip (i := 21) rfl (by kernel_rfl) rfl (wants_undef rfl rfl rfl) ?_
                          refine tb_skip (i := 22) rfl (by kernel_rfl) rfl (wants_undef rfl rfl rfl) ?_
                          refine tb_skip (i := 23) rfl (by kernel_rfl) rfl (wants_undef rfl rfl rfl) ?_
                          refine tb_skip (i := 24) rfl (by kernel_rfl) rfl (wants_f rfl rfl rfl rfl) ?_
                          refine tb_float (i := 25) rfl (by kernel_rfl) rfl (wants_none rfl) (yq_of (y_pickf (fe_t rfl) fe_c)) ?_
                          refine tb_float (i := 26) rfl (by kernel_rfl) rfl (wants_none rfl) (yq_of (y_assign (fe_t rfl))) ?_
                          refine tb_done (by kernel_rfl) ?_
                          refine tx_in ?_
                          refine tx_then ?_
                          refine tr_region ?_
                          refine tl_step rfl (oj_val (y_inc (fe_t rfl) fe_c (by omega)) ?_)
                          refine tl_step rfl (oj_val (y_move (fe_t rfl)) ?_)
                          refine tl_nil ?_
                          apply tx_back2 (i + 1) (_)
                          · exact (cov_cons (by first | rfl | exact v_int (by omega) | exact v_bool (by simp [*])) (cov_cons (by first | rfl | exact v_int (by omega) | exact v_bool (by simp [*])) (cov_nil)))
                          · repeat (first | exact over_nil | refine over_put rfl ?_ | refine over_drop rfl ?_)
                          · exact fun w h => h.pick [] _ rfl (by decide)
                          · refine ⟨⟨by omega, ?_⟩, by omega⟩
                            rw [okTo_succ]
                            constructor
                            · intro h
                              first
                                | exact ⟨(hb.1 ‹b = true›).1, (hb.1 ‹b = true›).2, by unfold okAt; first | omega | (simp only [decide_eq_true_eq] at h; omega)⟩
                                | (simp at h; done)
                                | (exfalso; simp_all; done)
                            · rintro ⟨h1, h2, h3⟩
                              unfold okAt at h3
                              first
                                | rfl
                                | exact decide_eq_true (by omega)
                                | (exfalso; omega)
                                | exact absurd (hb.2 ⟨h1, h2⟩) (by simp [*])
                  · try (exfalso; omega)
                    all_goals
                      refine tb_skip (i := 7) rfl (by kernel_rfl) rfl (wants_f rfl rfl rfl rfl) ?_
                      refine tb_skip (i := 8) rfl (by kernel_rfl) rfl (wants_f rfl rfl rfl rfl) ?_
                      refine tb_skip (i := 9) rfl (by kernel_rfl) rfl (wants_f rfl rfl rfl rfl) ?_
                      refine tb_float (i := 10) rfl (by kernel_rfl) rfl (wants_none rfl) (yq_of (y_pickf (fe_t rfl) fe_c)) ?_
                      refine tb_float (i := 11) rfl (by kernel_rfl) rfl (wants_none rfl) (yq_of (y_move (fe_t rfl))) ?_
                      refine tb_skip (i := 12) rfl (by kernel_rfl) rfl (wants_f rfl rfl rfl rfl) ?_
                      refine tb_skip (i := 13) rfl (by kernel_rfl) rfl (wants_f rfl rfl rfl rfl) ?_
                      refine tb_skip (i := 14) rfl (by kernel_rfl) rfl (wants_f rfl rfl rfl rfl) ?_
                      refine tb_skip (i := 15) rfl (by kernel_rfl) rfl (wants_undef rfl rfl rfl) ?_
                      refine tb_skip (i := 16) rfl (by kernel_rfl) rfl (wants_undef rfl rfl rfl) ?_
                      refine tb_skip (i := 17) rfl (by kernel_rfl) rfl (wants_undef rfl rfl rfl) ?_
                      refine tb_skip (i := 18) rfl (by kernel_rfl) rfl (wants_undef rfl rfl rfl) ?_
                      refine tb_skip (i := 19) rfl (by kernel_rfl) rfl (wants_undef rfl rfl rfl) ?_
                      refine tb_skip (i := 20) rfl (by kernel_rfl) rfl (wants_undef rfl rfl rfl) ?_
                      refine tb_skip (i := 21) rfl (by kernel_rfl) rfl (wants_undef rfl rfl rfl) ?_
                      refine tb_skip (i := 22) rfl (by kernel_rfl) rfl (wants_undef rfl rfl rfl) ?_
                      refine tb_skip (i := 23) rfl (by kernel_rfl) rfl (wants_undef rfl rfl rfl) ?_
                      refine tb_skip (i := 24) rfl (by kernel_rfl) rfl (wants_f rfl rfl rfl rfl) ?_
                      refine tb_float (i := 25) rfl (by kernel_rfl) rfl (wants_none rfl) (yq_of (y_pickf (fe_t rfl) fe_c)) ?_
                      refine tb_float (i := 26) rfl (by kernel_rfl) rfl (wants_none rfl) (yq_of (y_assign (fe_t rfl))) ?_
                      refine tb_done (by kernel_rfl) ?_
                      refine tx_in ?_
                      refine tx_then ?_
                      refine tr_region ?_
                      refine tl_step rfl (oj_val (y_inc (fe_t rfl) fe_c (by omega)) ?_)
                      refine tl_step rfl (oj_val (y_move (fe_t rfl)) ?_)
                      refine tl_nil ?_
                      apply tx_back2 (i + 1) (_)
                      · exact (cov_cons (by first | rfl | exact v_int (by omega) | exact v_bool (by simp [*])) (cov_cons (by first | rfl | exact v_int (by omega) | exact v_bool (by simp [*])) (cov_nil)))
                      · repeat (first | exact over_nil | refine over_put rfl ?_ | refine over_drop rfl ?_)
                      · exact fun w h => h.pick [] _ rfl (by decide)
                      · refine ⟨⟨by omega, ?_⟩, by omega⟩
                        rw [okTo_succ]
                        constructor
                        · intro h
                          first
                            | exact ⟨(hb.1 ‹b = true›).1, (hb.1 ‹b = true›).2, by unfold okAt; first | omega | (simp only [decide_eq_true_eq] at h; omega)⟩
                            | (simp at h; done)
                            | (exfalso; simp_all; done)
                        · rintro ⟨h1, h2, h3⟩
                          unfold okAt at h3
                          first
                            | rfl
                            | exact decide_eq_true (by omega)
                            | (exfalso; omega)
                            | exact absurd (hb.2 ⟨h1, h2⟩) (by simp [*])
              · try (exfalso; omega)
                all_goals
                  refine tb_skip (i := 2) rfl (by kernel_rfl) rfl (wants_f rfl rfl rfl rfl) ?_
                  refine tb_skip (i := 3) rfl (by kernel_rfl) rfl (wants_f rfl rfl rfl rfl) ?_
                  refine tb_skip (i := 4) rfl (by kernel_rfl) rfl (wants_f rfl rfl rfl rfl) ?_
                  refine tb_float (i := 5) rfl (by kernel_rfl) rfl (wants_none rfl) (yq_of (y_pickf (fe_t rfl) fe_c)) ?_
                  refine tb_float (i := 6) rfl (by kernel_rfl) rfl (wants_none rfl) (yq_of (y_move (fe_t rfl))) ?_
                  refine tb_skip (i := 7) rfl (by kernel_rfl) rfl (wants_f rfl rfl rfl rfl) ?_
                  refine tb_skip (i := 8) rfl (by kernel_rfl) rfl (wants_f rfl rfl rfl rfl) ?_
                  refine tb_skip (i := 9) rfl (by kernel_rfl) rfl (wants_f rfl rfl rfl rfl) ?_
                  refine tb_float (i := 10) rfl (by kernel_rfl) rfl (wants_none rfl) (yq_of (y_pickf (fe_t rfl) fe_c)) ?_
                  refine tb_float (i := 11) rfl (by kernel_rfl) rfl (wants_none rfl) (yq_of (y_move (fe_t rfl))) ?_
                  refine tb_skip (i := 12) rfl (by kernel_rfl) rfl (wants_f rfl rfl rfl rfl) ?_
                  refine tb_skip (i := 13) rfl (by kernel_rfl) rfl (wants_f rfl rfl rfl rfl) ?_
                  refine tb_skip (i := 14) rfl (by kernel_rfl) rfl (wants_f rfl rfl rfl rfl) ?_
                  refine tb_skip (i := 15) rfl (by kernel_rfl) rfl (wants_undef rfl rfl rfl) ?_
                  refine tb_skip (i := 16) rfl (by kernel_rfl) rfl (wants_undef rfl rfl rfl) ?_
                  refine tb_skip (i := 17) rfl (by kernel_rfl) rfl (wants_undef rfl rfl rfl) ?_
                  refine tb_skip (i := 18) rfl (by kernel_rfl) rfl (wants_undef rfl rfl rfl) ?_
                  refine tb_skip (i := 19) rfl (by kernel_rfl) rfl (wants_undef rfl rfl rfl) ?_
                  refine tb_skip (i := 20) rfl (by kernel_rfl) rfl (wants_undef rfl rfl rfl) ?_
                  refine tb_skip (i := 21) rfl (by kernel_rfl) rfl (wants_undef rfl rfl rfl) ?_
                  refine tb_skip (i := 22) rfl (by kernel_rfl) rfl (wants_undef rfl rfl rfl) ?_
                  refine tb_skip (i := 23) rfl (by kernel_rfl) rfl (wants_undef rfl rfl rfl) ?_
                  refine tb_skip (i := 24) rfl (by kernel_rfl) rfl (wants_f rfl rfl rfl rfl) ?_
                  refine tb_float (i := 25) rfl (by kernel_rfl) rfl (wants_none rfl) (yq_of (y_pickf (fe_t rfl) fe_c)) ?_
                  refine tb_float (i := 26) rfl (by kernel_rfl) rfl (wants_none rfl) (yq_of (y_assign (fe_t rfl))) ?_
                  refine tb_done (by kernel_rfl) ?_
                  refine tx_in ?_
                  refine tx_then ?_
                  refine tr_region ?_
                  refine tl_step rfl (oj_val (y_inc (fe_t rfl) fe_c (by omega)) ?_)
                  refine tl_step rfl (oj_val (y_move (fe_t rfl)) ?_)
                  refine tl_nil ?_
                  apply tx_back2 (i + 1) (_)
                  · exact (cov_cons (by first | rfl | exact v_int (by omega) | exact v_bool (by simp [*])) (cov_cons (by first | rfl | exact v_int (by omega) | exact v_bool (by simp [*])) (cov_nil)))
                  · repeat (first | exact over_nil | refine over_put rfl ?_ | refine over_drop rfl ?_)
                  · exact fun w h => h.pick [] _ rfl (by decide)
                  · refine ⟨⟨by omega, ?_⟩, by omega⟩
                    rw [okTo_succ]
                    constructor
                    · intro h
                      first
                        | exact ⟨(hb.1 ‹b = true›).1, (hb.1 ‹b = true›).2, by unfold okAt; first | omega | (simp only [decide_eq_true_eq] at h; omega)⟩
                        | (simp at h; done)
                        | (exfalso; simp_all; done)
                    · rintro ⟨h1, h2, h3⟩
                      unfold okAt at h3
                      first
                        | rfl
                        | exact decide_eq_true (by omega)
                        | (exfalso; omega)
                        | exact absurd (hb.2 ⟨h1, h2⟩) (by simp [*])
          · try (exfalso; omega)
            all_goals
              refine tr_exit ?_
              refine tx_then_exit ?_
              refine tx_then_exit ?_
              refine tx_in_exit ?_
              refine tx_then ?_
              refine tr_seq ?_
              refine tr_region ?_
              refine tl_step rfl (oj_val (y_move (fe_t rfl)) ?_)
              refine tl_step rfl (oj_val (y_assign (fe_t rfl)) ?_)
              refine tl_nil ?_
              refine tx_then ?_
              refine tr_ret ?_
              refine tx_ret (res1 Try.results91 (rok_t rfl)) (fun w' hS => ?_)
              obtain rfl : i = l.length := by omega
              exact ⟨ret_bool (by rw [Bool.eq_iff_iff, rB_iff]; exact hb), hS.pick [] _ rfl (by decide)⟩
      · try (exfalso; omega)
        all_goals
          refine tl_skip rfl rfl rfl rfl ?_
          refine tl_skip rfl rfl rfl rfl ?_
          refine tl_skip rfl rfl rfl rfl ?_
          refine tl_skip rfl rfl rfl rfl ?_
          refine tl_step rfl (oj_val (y_pickf (fe_t rfl) fe_c) ?_)
          refine tl_step rfl (oj_val (y_assign (fe_t rfl)) ?_)
          refine tl_nil ?_
          refine tx_then ?_
          refine tr_seq ?_
          refine tr_seq ?_
          refine tr_region ?_
          refine tl_step rfl (oj_val (y_move (fe_t rfl)) ?_)
          refine tl_step rfl (oj_val (y_len Try.underlying87 (fe_t rfl)) ?_)
          refine tl_step rfl (oj_val (y_move fe_c) ?_)
          refine tl_nil ?_
          refine tx_then ?_
          refine tr_block ?_
          refine tr_loop2 [5, 6, 7, 22, 23, 24, 25, 26, 27, 28, 29, 30, 31, 32, 33, 34, 35, 36, 37, 38, 39, 40, 41, 42, 43, 44, 45, 46, 47, 48, 49, 50, 51, 52, 53] (fun (i : Nat) (b : Bool) => [(22, .int .i64 (i : Int)), (5, .bool b)]) 0 (fun (i : Nat) (b : Bool) => []) (fun (i : Nat) (b : Bool) => i ≤ n ∧ (b = true ↔ (1 ≤ k ∧ k ≤ 400 ∧ (l.length : Int) ≤ k) ∧ okTo l i)) (fun (i : Nat) (b : Bool) => n - i) (0) (_) (cov_cons (by first | rfl | exact v_int (by omega) | exact v_bool (by simp [*])) (cov_cons (by first | rfl | exact v_int (by omega) | exact v_bool (by simp [*])) (cov_nil))) (fun w h => h) ?_ ?_
          · try dsimp only
            refine ⟨by omega, ⟨fun h => ⟨by first | omega | (simp at h; omega) | (simp at h; done), okTo_zero⟩, fun h => ?_⟩⟩
            first
              | rfl
              | exact decide_eq_true (by omega)
              | (exfalso; have h1 := h.1; omega)
          intro i b hp
          obtain ⟨hi, hb⟩ := hp
          refine tr_seq ?_
          refine tr_region ?_
          refine tl_step rfl (oj_val (y_lss (fe_t rfl) (fe_t rfl)) ?_)
          refine tl_nil ?_
          refine tx_then ?_
          refine tr_seq ?_
          refine tr_condp (fe_t rfl) (fun hq15 => ?_) (fun hq16 => ?_)
          · try (exfalso; omega)
            all_goals
              refine tr_skip ?_
              refine tx_then ?_
              refine tr_seq ?_
              refine tr_block ?_
              refine tr_seq ?_
              refine tr_region ?_
              refine tl_step rfl (oj_val (y_move (fe_t rfl)) ?_)
              refine tl_step rfl (oj_val (y_index Try.underlying87 Try.sizeOf92 (fe_t rfl) (fe_t rfl) (rdl_out hr) (lenK hn) (by decide) (by omega) rfl) ?_)
              refine tl_step rfl (oj_val (y_ldA (cs := [(.int .i64 (k1 l i)), (.int .i64 (k2 l i))]) Try.isAgg92 Try.sizeOf92 (fe_t rfl) (rdl_out hr) rfl (by decide) (getK (by omega))) ?_)
              refine tl_step rfl (oj_alloc Try.zeroValue92 (fun bc => ?_))
              refine tl_step rfl (oj_val (y_assign (fe_t rfl)) ?_)
              refine tl_step rfl (oj_storeW 0 Try.sizeOf92 (fe_t rfl) (fe_t rfl) rfl rfl rfl rfl rfl (?_))
              refine tl_nil ?_
              refine tx_then ?_
              refine tb_draw 27 (sel _ [0]) (fun w h => h.sel _ rfl (by decide)) rfl ?_
              refine tb_float (i := 0) rfl (by kernel_rfl) rfl (wants_none rfl) (yq_of (y_move (fe_t rfl))) ?_
              refine tb_float (i := 1) rfl (by kernel_rfl) rfl (wants_none rfl) (yq_of (y_move (fe_t rfl))) ?_
              refine tb_split (d := 28) rfl (fun hq17 => ?_) (fun hq18 => ?_)
              · try (exfalso; omega)
                all_goals
                  refine tb_float (i := 2) rfl (by kernel_rfl) rfl (wants_t rfl rfl rfl) (yq_of (y_fieldAddr (td := 3) Try.underlying92 rfl rfl Try.sizeOf3 (o' := 1) rfl (fe_t rfl))) ?_
                  refine tb_float (i := 3) rfl (by kernel_rfl) rfl (wants_t rfl rfl rfl) (yq_of (y_ldb 0 Try.isAgg3 (fe_t rfl) rfl rfl)) ?_
                  refine tb_float (i := 4) rfl (by kernel_rfl) rfl (wants_t rfl rfl rfl) (yq_of (y_gtr (fe_t rfl) fe_c)) ?_
                  refine tb_float (i := 5) rfl (by kernel_rfl) rfl (wants_none rfl) (yq_of (y_pickt (fe_t rfl) (fe_t rfl))) ?_
                  refine tb_float (i := 6) rfl (by kernel_rfl) rfl (wants_none rfl) (yq_of (y_move (fe_t rfl))) ?_
                  refine tb_splitp (d := 33) rfl (fun hq19 => ?_) (fun hq20 => ?_)
                  · try (exfalso; omega)
                    all_goals
                      refine tb_float (i := 7) rfl (by kernel_rfl) rfl (wants_t rfl rfl rfl) (yq_of (y_fieldAddr (td := 3) Try.underlying92 rfl rfl Try.sizeOf3 (o' := 1) rfl (fe_t rfl))) ?_
                      refine tb_float (i := 8) rfl (by kernel_rfl) rfl (wants_t rfl rfl rfl) (yq_of (y_ldb 0 Try.isAgg3 (fe_t rfl) rfl rfl)) ?_
                      refine tb_float (i := 9) rfl (by kernel_rfl) rfl (wants_t rfl rfl rfl) (yq_of (y_leq (fe_t rfl) fe_c)) ?_
                      refine tb_float (i := 10) rfl (by kernel_rfl) rfl (wants_none rfl) (yq_of (y_pickt (fe_t rfl) (fe_t rfl))) ?_
                      refine tb_float (i := 11) rfl (by kernel_rfl) rfl (wants_none rfl) (yq_of (y_move (fe_t rfl))) ?_
                      refine tb_splitp (d := 38) rfl (fun hq21 => ?_) (fun hq22 => ?_)
                      · try (exfalso; omega)
                        all_goals
                          refine tb_float (i := 12) rfl (by kernel_rfl) rfl (wants_t rfl rfl rfl) (yq_of (y_move (fe_t rfl))) ?_
                          refine tb_float (i := 13) rfl (by kernel_rfl) rfl (wants_t rfl rfl rfl) (yq_of (y_eq (fe_t rfl) fe_c)) ?_
                          refine tb_float (i := 14) rfl (by kernel_rfl) rfl (wants_t rfl rfl rfl) (yq_of (y_move (fe_t rfl))) ?_
                          refine tb_splitp (d := 41) rfl (fun hq23 => ?_) (fun hq24 => ?_)
                          · try (exfalso; omega)
                            all_goals
                              refine tb_skip (i := 15) rfl (by kernel_rfl) rfl (wants_f rfl rfl rfl rfl) ?_
                              refine tb_skip (i := 16) rfl (by kernel_rfl) rfl (wants_f rfl rfl rfl rfl) ?_
                              refine tb_skip (i := 17) rfl (by kernel_rfl) rfl (wants_f rfl rfl rfl rfl) ?_
                              refine tb_skip (i := 18) rfl (by kernel_rfl) rfl (wants_f rfl rfl rfl rfl) ?_
                              refine tb_skip (i := 19) rfl (by kernel_rfl) rfl (wants_f rfl rfl rfl rfl) ?_
                              refine tb_skip (i := 20) rfl (by kernel_rfl) rfl (wants_f rfl rfl rfl rfl) ?_
                              refine tb_skip (i := 21) rfl (by kernel_rfl) rfl (wants_f rfl rfl rfl rfl) ?_
                              refine tb_skip (i := 22) rfl (by kernel_rfl) rfl (wants_f rfl rfl rfl rfl) ?_
                              refine tb_skip (i := 23) rfl (by kernel_rfl) rfl (wants_f rfl rfl rfl rfl) ?_
                              refine tb_float (i := 24) rfl (by kernel_rfl) rfl (wants_t rfl rfl rfl) (yq_of (y_pickt (fe_t rfl) fe_c)) ?_
                              refine tb_float (i := 25) rfl (by kernel_rfl) rfl (wants_none rfl) (yq_of (y_pickt (fe_t rfl) (fe_t rfl))) ?_
                              refine tb_float (i := 26) rfl (by kernel_rfl) rfl (wants_none rfl) (yq_of (y_assign (fe_t rfl))) ?_
                              refine tb_done (by kernel_rfl) ?_
                              refine tx_in ?_
                              refine tx_then ?_
                              refine tr_region ?_
                              refine tl_step rfl (oj_val (y_inc (fe_t rfl) fe_c (by omega)) ?_)
                              refine tl_step rfl (oj_val (y_move (fe_t rfl)) ?_)
                              refine tl_nil ?_
                              apply tx_back2 (i + 1) (_)
                              · exact (cov_cons (by first | rfl | exact v_int (by omega) | exact v_bool (by simp [*])) (cov_cons (by first | rfl | exact v_int (by omega) | exact v_bool (by simp [*])) (cov_nil)))
                              · repeat (first | exact over_nil | refine over_put rfl ?_ | refine over_drop rfl ?_)
                              · exact fun w h => h.pick [] _ rfl (by decide)
                              · refine ⟨⟨by omega, ?_⟩, by omega⟩
                                rw [okTo_succ]
                                constructor
                                · intro h
                                  first
                                    | exact ⟨(hb.1 ‹b = true›).1, (hb.1 ‹b = true›).2, by unfold okAt; first | omega | (simp only [decide_eq_true_eq] at h; omega)⟩
                                    | (simp at h; done)
                                    | (exfalso; simp_all; done)
                                · rintro ⟨h1, h2, h3⟩
                                  unfold okAt at h3
                                  first
                                    | rfl
                                    | exact decide_eq_true (by omega)
                                    | (exfalso; omega)
                                    | exact absurd (hb.2 ⟨h1, h2⟩) (by simp [*])
                          · try (exfalso; omega)
                            all_goals
                              refine tb_float (i := 15) rfl (by kernel_rfl) rfl (wants_t rfl rfl rfl) (yq_of (y_move (fe_t rfl))) ?_
                              refine tb_float (i := 16) rfl (by kernel_rfl) rfl (wants_t rfl rfl rfl) (yq_of (y_move (fe_t rfl))) ?_
                              refine tb_float (i := 17) rfl (by kernel_rfl) rfl (wants_t rfl rfl rfl) (yq_of (y_sub (fe_t rfl) fe_c (by omega))) ?_
                              refine tb_float (i := 18) rfl (by kernel_rfl) rfl (wants_t rfl rfl rfl) (yq_of (y_index (j := i - 1) Try.underlying87 Try.sizeOf92 (fe_t rfl) (fe_i (by omega) rfl) (rdl_out hr) (lenK hn) (by decide) (by omega) rfl)) ?_
                              refine tb_float (i := 19) rfl (by kernel_rfl) rfl (wants_t rfl rfl rfl) (yq_of (y_fieldAddrE (td := 3) Try.underlying92 rfl rfl Try.sizeOf3 rfl (fe_t rfl) (rdl_out hr) (by rw [lenK hn]; omega))) ?_
                              refine tb_float (i := 20) rfl (by kernel_rfl) rfl (wants_t rfl rfl rfl) (yq_of (y_ld Try.isAgg3 (fe_t rfl) (rdl_out hr) (getK1 (by omega)))) ?_
                              refine tb_float (i := 21) rfl (by kernel_rfl) rfl (wants_t rfl rfl rfl) (yq_of (y_fieldAddr (td := 3) Try.underlying92 rfl rfl Try.sizeOf3 (o' := 0) rfl (fe_t rfl))) ?_
                              refine tb_float (i := 22) rfl (by kernel_rfl) rfl (wants_t rfl rfl rfl) (yq_of (y_ldb 0 Try.isAgg3 (fe_t rfl) rfl rfl)) ?_
                              refine tb_float (i := 23) rfl (by kernel_rfl) rfl (wants_t rfl rfl rfl) (yq_of (y_lss (fe_t rfl) (fe_t rfl))) ?_
                              refine tb_float (i := 24) rfl (by kernel_rfl) rfl (wants_t rfl rfl rfl) (yq_of (y_pickf (fe_t rfl) (fe_t rfl))) ?_
                              refine tb_float (i := 25) rfl (by kernel_rfl) rfl (wants_none rfl) (yq_of (y_pickt (fe_t rfl) (fe_t rfl))) ?_
                              refine tb_float (i := 26) rfl (by kernel_rfl) rfl (wants_none rfl) (yq_of (y_assign (fe_t rfl))) ?_
                              refine tb_done (by kernel_rfl) ?_
                              refine tx_in ?_
                              refine tx_then ?_
                              refine tr_region ?_
                              refine tl_step rfl (oj_val (y_inc (fe_t rfl) fe_c (by omega)) ?_)
                              refine tl_step rfl (oj_val (y_move (fe_t rfl)) ?_)
                              refine tl_nil ?_
                              apply tx_back2 (i + 1) (_)
                              · exact (cov_cons (by first | rfl | exact v_int (by omega) | exact v_bool (by simp [*])) (cov_cons (by first | rfl | exact v_int (by omega) | exact v_bool (by simp [*])) (cov_nil)))
                              · repeat (first | exact over_nil | refine over_put rfl ?_ | refine over_drop rfl ?_)
                              · exact fun w h => h.pick [] _ rfl (by decide)
                              · refine ⟨⟨by omega, ?_⟩, by omega⟩
                                rw [okTo_succ]
                                constructor
                                · intro h
                                  first
                                    | exact ⟨(hb.1 ‹b = true›).1, (hb.1 ‹b = true›).2, by unfold okAt; first | omega | (simp only [decide_eq_true_eq] at h; omega)⟩
                                    | (simp at h; done)
                                    | (exfalso; simp_all; done)
                                · rintro ⟨h1, h2, h3⟩
                                  unfold okAt at h3
                                  first
                                    | rfl
                                    | exact decide_eq_true (by omega)
                                    | (exfalso; omega)
                                    | exact absurd (hb.2 ⟨h1, h2⟩) (by simp [*])
                      · try (exfalso; omega)
                        all_goals
                          refine tb_skip (i := 12) rfl (by kernel_rfl) rfl (wants_f rfl rfl rfl rfl) ?_
                          refine tb_skip (i := 13) rfl (by kernel_rfl) rfl (wants_f rfl rfl rfl rfl) ?_
                          refine tb_skip (i := 14) rfl (by kernel_rfl) rfl (wants_f rfl rfl rfl rfl) ?_
                          refine tb_skip (i := 15) rfl (by kernel_rfl) rfl (wants_undef rfl rfl rfl) ?_
                          refine tb_skip (i := 16) rfl (by kernel_rfl) rfl (wants_undef rfl rfl rfl) ?_
                          refine tb_skip (i := 17) rfl (by kernel_rfl) rfl (wants_undef rfl rfl rfl) ?_
                          refine tb_skip (i := 18) rfl (by kernel_rfl) rfl (wants_undef rfl rfl rfl) ?_
                          refine tb_skip (i := 19) rfl (by kernel_rfl) rfl (wants_undef rfl rfl rfl) ?_
                          refine tb_skip (i := 20) rfl (by kernel_rfl) rfl (wants_undef rfl rfl rfl) ?_
                          refine tb_skip (i := 21) rfl (by kernel_rfl) rfl (wants_undef rfl rfl rfl) ?_
                          refine tb_skip (i := 22) rfl (by kernel_rfl) rfl (wants_undef rfl rfl rfl) ?_
                          refine tb_skip (i := 23) rfl (by kernel_rfl) rfl (wants_undef rfl rfl rfl) ?_
                          refine tb_skip (i := 24) rfl (by kernel_rfl) rfl (wants_f rfl rfl rfl rfl) ?_
                          refine tb_float (i := 25) rfl (by kernel_rfl) rfl (wants_none rfl) (yq_of (y_pickf (fe_t rfl) fe_c)) ?_
                          refine tb_float (i := 26) rfl (by kernel_rfl) rfl (wants_none rfl) (yq_of (y_assign (fe_t rfl))) ?_
                          refine tb_done (by kernel_rfl) ?_
                          refine tx_in ?_
                          refine tx_then ?_
                          refine tr_region ?_
                          refine tl_step rfl (oj_val (y_inc (fe_t rfl) fe_c (by omega)) ?_)
                          refine tl_step rfl (oj_val (y_move (fe_t rfl)) ?_)
                          refine tl_nil ?_
                          apply tx_back2 (i + 1) (_)
                          · exact (cov_cons (by first | rfl | exact v_int (by omega) | exact v_bool (by simp [*])) (cov_cons (by first | rfl | exact v_int (by omega) | exact v_bool (by simp [*])) (cov_nil)))
                          · repeat (first | exact over_nil | refine over_put rfl ?_ | refine over_drop rfl ?_)
                          · exact fun w h => h.pick [] _ rfl (by decide)
                          · refine ⟨⟨by omega, ?_⟩, by omega⟩
                            rw [okTo_succ]
                            constructor
                            · intro h
                              first
                                | exact ⟨(hb.1 ‹b = true›).1, (hb.1 ‹b = true›).2, by unfold okAt; first | omega | (simp only [decide_eq_true_eq] at h; omega)⟩
                                | (simp at h; done)
                                | (exfalso; simp_all; done)
                            · rintro ⟨h1, h2, h3⟩
                              unfold okAt at h3
                              first
                                | rfl
                                | exact decide_eq_true (by omega)
                                | (exfalso; omega)
                                | exact absurd (hb.2 ⟨h1, h2⟩) (by simp [*])
                  · try (exfalso; omega)
                    all_goals
                      refine tb_skip (i := 7) rfl (by kernel_rfl) rfl (wants_f rfl rfl rfl rfl) ?_
                      refine tb_skip (i := 8) rfl (by kernel_rfl) rfl (wants_f rfl rfl rfl rfl) ?_
                      refine tb_skip (i := 9) rfl (by kernel_rfl) rfl (wants_f rfl rfl rfl rfl) ?_
                      refine tb_float (i := 10) rfl (by kernel_rfl) rfl (wants_none rfl) (yq_of (y_pickf (fe_t rfl) fe_c)) ?_
                      refine tb_float (i := 11) rfl (by kernel_rfl) rfl (wants_none rfl) (yq_of (y_move (fe_t rfl))) ?_
                      refine tb_skip (i := 12) rfl (by kernel_rfl) rfl (wants_f rfl rfl rfl rfl) ?_
                      refine tb_skip (i := 13) rfl (by kernel_rfl) rfl (wants_f rfl rfl rfl rfl) ?_
                      refine tb_skip (i := 14) rfl (by kernel_rfl) rfl (wants_f rfl rfl rfl rfl) ?_
                      refine tb_skip (i := 15) rfl (by kernel_rfl) rfl (wants_undef rfl rfl rfl) ?_
                      refine tb_skip (i := 16) rfl (by kernel_rfl) rfl (wants_undef rfl rfl rfl) ?_
                      refine tb_skip (i := 17) rfl (by kernel_rfl) rfl (wants_undef rfl rfl rfl) ?_
                      refine tb_skip (i := 18) rfl (by kernel_rfl) rfl (wants_undef rfl rfl rfl) ?_
                      refine tb_skip (i := 19) rfl (by kernel_rfl) rfl (wants_undef rfl rfl rfl) ?_
                      refine tb_skip (i := 20) rfl (by kernel_rfl) rfl (wants_undef rfl rfl rfl) ?_
                      refine tb_skip (i := 21) rfl (by kernel_rfl) rfl (wants_undef rfl rfl rfl) ?_
                      refine tb_skip (i := 22) rfl (by kernel_rfl) rfl (wants_undef rfl rfl rfl) ?_
                      refine tb_skip (i := 23) rfl (by kernel_rfl) rfl (wants_undef rfl rfl rfl) ?_
                      refine tb_skip (i := 24) rfl (by kernel_rfl) rfl (wants_f rfl rfl rfl rfl) ?_
                      refine tb_float (i := 25) rfl (by kernel_rfl) rfl (wants_none rfl) (yq_of (y_pickf (fe_t rfl) fe_c)) ?_
                      refine tb_float (i := 26) rfl (by kernel_rfl) rfl (wants_none rfl) (yq_of (y_assign (fe_t rfl))) ?_
                      refine tb_done (by kernel_rfl) ?_
                      refine tx_in ?_
                      refine tx_then ?_
                      refine tr_region ?_
                      refine tl_step rfl (oj_val (y_inc (fe_t rfl) fe_c (by omega)) ?_)
                      refine tl_step rfl (oj_val (y_move (fe_t rfl)) ?_)
                      refine tl_nil ?_
                      apply tx_back2 (i + 1) (_)
                      · exact (cov_cons (by first | rfl | exact v_int (by omega) | exact v_bool (by simp [*])) (cov_cons (by first | rfl | exact v_int (by omega) | exact v_bool (by simp [*])) (cov_nil)))
                      · repeat (first | exact over_nil | refine over_put rfl ?_ | refine over_drop rfl ?_)
                      · exact fun w h => h.pick [] _ rfl (by decide)
                      · refine ⟨⟨by omega, ?_⟩, by omega⟩
                        rw [okTo_succ]
                        constructor
                        · intro h
                          first
                            | exact ⟨(hb.1 ‹b = true›).1, (hb.1 ‹b = true›).2, by unfold okAt; first | omega | (simp only [decide_eq_true_eq] at h; omega)⟩
                            | (simp at h; done)
                            | (exfalso; simp_all; done)
                        · rintro ⟨h1, h2, h3⟩
                          unfold okAt at h3
                          first
                            | rfl
                            | exact decide_eq_true (by omega)
                            | (exfalso; omega)
                            | exact absurd (hb.2 ⟨h1, h2⟩) (by simp [*])
              · try (exfalso; omega)
                all_goals
                  refine tb_skip (i := 2) rfl (by kernel_rfl) rfl (wants_f rfl rfl rfl rfl) ?_
                  refine tb_skip (i := 3) rfl (by kernel_rfl) rfl (wants_f rfl rfl rfl rfl) ?_
                  refine tb_skip (i := 4) rfl (by kernel_rfl) rfl (wants_f rfl rfl rfl rfl) ?_
                  refine tb_float (i := 5) rfl (by kernel_rfl) rfl (wants_none rfl) (yq_of (y_pickf (fe_t rfl) fe_c)) ?_
                  refine tb_float (i := 6) rfl (by kernel_rfl) rfl (wants_none rfl) (yq_of (y_move (fe_t rfl))) ?_
                  refine tb_skip (i := 7) rfl (by kernel_rfl) rfl (wants_f rfl rfl rfl rfl) ?_
                  refine tb_skip (i := 8) rfl (by kernel_rfl) rfl (wants_f rfl rfl rfl rfl) ?_
                  refine tb_skip (i := 9) rfl (by kernel_rfl) rfl (wants_f rfl rfl rfl rfl) ?_
                  refine tb_float (i := 10) rfl (by kernel_rfl) rfl (wants_none rfl) (yq_of (y_pickf (fe_t rfl) fe_c)) ?_
                  refine tb_float (i := 11) rfl (by kernel_rfl) rfl (wants_none rfl) (yq_of (y_move (fe_t rfl))) ?_
                  refine tb_skip (i := 12) rfl (by kernel_rfl) rfl (wants_f rfl rfl rfl rfl) ?_
                  refine tb_skip (i := 13) rfl (by kernel_rfl) rfl (wants_f rfl rfl rfl rfl) ?_
                  refine tb_skip (i := 14) rfl (by kernel_rfl) rfl (wants_f rfl rfl rfl rfl) ?_
                  refine tb_skip (i := 15) rfl (by kernel_rfl) rfl (wants_undef rfl rfl rfl) ?_
                  refine tb_skip (i := 16) rfl (by kernel_rfl) rfl (wants_undef rfl rfl rfl) ?_
                  refine tb_skip (i := 17) rfl (by kernel_rfl) rfl (wants_undef rfl rfl rfl) ?_
                  refine tb_skip (i := 18) rfl (by kernel_rfl) rfl (wants_undef rfl rfl rfl) ?_
                  refine tb_skip (i := 19) rfl (by kernel_rfl) rfl (wants_undef rfl rfl rfl) ?_
                  refine tb_skip (i := 20) rfl (by kernel_rfl) rfl (wants_undef rfl rfl rfl) ?_
                  refine tb_skip (i := 21) rfl (by kernel_rfl) rfl (wants_undef rfl rfl rfl) ?_
                  refine tb_skip (i := 22) rfl (by kernel_rfl) rfl (wants_undef rfl rfl rfl) ?_
                  refine tb_skip (i := 23) rfl (by kernel_rfl) rfl (wants_undef rfl rfl rfl) ?_
                  refine tb_skip (i := 24) rfl (by kernel_rfl) rfl (wants_f rfl rfl rfl rfl) ?_
                  refine tb_float (i := 25) rfl (by kernel_rfl) rfl (wants_none rfl) (yq_of (y_pickf (fe_t rfl) fe_c)) ?_
                  refine tb_float (i := 26) rfl (by kernel_rfl) rfl (wants_none rfl) (yq_of (y_assign (fe_t rfl))) ?_
                  refine tb_done (by kernel_rfl) ?_
                  refine tx_in ?_
                  refine tx_then ?_
                  refine tr_region ?_
                  refine tl_step rfl (oj_val (y_inc (fe_t rfl) fe_c (by omega)) ?_)
                  refine tl_step rfl (oj_val (y_move (fe_t rfl)) ?_)
                  refine tl_nil ?_
                  apply tx_back2 (i + 1) (_)
                  · exact (cov_cons (by first | rfl | exact v_int (by omega) | exact v_bool (by simp [*])) (cov_cons (by first | rfl | exact v_int (by omega) | exact v_bool (by simp [*])) (cov_nil)))
                  · repeat (first | exact over_nil | refine over_put rfl ?_ | refine over_drop rfl ?_)
                  · exact fun w h => h.pick [] _ rfl (by decide)
                  · refine ⟨⟨by omega, ?_⟩, by omega⟩
                    rw [okTo_succ]
                    constructor
                    · intro h
                      first
                        | exact ⟨(hb.1 ‹b = true›).1, (hb.1 ‹b = true›).2, by unfold okAt; first | omega | (simp only [decide_eq_true_eq] at h; omega)⟩
                        | (simp at h; done)
                        | (exfalso; simp_all; done)
                    · rintro ⟨h1, h2, h3⟩
                      unfold okAt at h3
                      first
                        | rfl
                        | exact decide_eq_true (by omega)
                        | (exfalso; omega)
                        | exact absurd (hb.2 ⟨h1, h2⟩) (by simp [*])
          · try (exfalso; omega)
            all_goals
              refine tr_exit ?_
              refine tx_then_exit ?_
              refine tx_then_exit ?_
              refine tx_in_exit ?_
              refine tx_then ?_
              refine tr_seq ?_
              refine tr_region ?_
              refine tl_step rfl (oj_val (y_move (fe_t rfl)) ?_)
              refine tl_step rfl (oj_val (y_assign (fe_t rfl)) ?_)
              refine tl_nil ?_
              refine tx_then ?_
              refine tr_ret ?_
              refine tx_ret (res1 Try.results91 (rok_t rfl)) (fun w' hS => ?_)
              obtain rfl : i = l.length := by omega
              exact ⟨ret_bool (by rw [Bool.eq_iff_iff, rB_iff]; exact hb), hS.pick [] _ rfl (by decide)⟩
  · try (exfalso; omega)
    all_goals
      refine tl_skip rfl rfl rfl rfl ?_
      refine tl_skip rfl rfl rfl rfl ?_
      refine tl_step rfl (oj_val (y_pickf (fe_t rfl) fe_c) ?_)
      refine tl_step rfl (oj_val (y_move (fe_t rfl)) ?_)
      refine tl_skip rfl rfl rfl rfl ?_
      refine tl_skip rfl rfl rfl rfl ?_
      refine tl_skip rfl rfl rfl rfl ?_
      refine tl_skip rfl rfl rfl rfl ?_
      refine tl_step rfl (oj_val (y_pickf (fe_t rfl) fe_c) ?_)
      refine tl_step rfl (oj_val (y_assign (fe_t rfl)) ?_)
      refine tl_nil ?_
      refine tx_then ?_
      refine tr_seq ?_
      refine tr_seq ?_
      refine tr_region ?_
      refine tl_step rfl (oj_val (y_move (fe_t rfl)) ?_)
      refine tl_step rfl (oj_val (y_len Try.underlying87 (fe_t rfl)) ?_)
      refine tl_step rfl (oj_val (y_move fe_c) ?_)
      refine tl_nil ?_
      refine tx_then ?_
      refine tr_block ?_
      refine tr_loop2 [5, 6, 7, 22, 23, 24, 25, 26, 27, 28, 29, 30, 31, 32, 33, 34, 35, 36, 37, 38, 39, 40, 41, 42, 43, 44, 45, 46, 47, 48, 49, 50, 51, 52, 53] (fun (i : Nat) (b : Bool) => [(22, .int .i64 (i : Int)), (5, .bool b)]) 0 (fun (i : Nat) (b : Bool) => []) (fun (i : Nat) (b : Bool) => i ≤ n ∧ (b = true ↔ (1 ≤ k ∧ k ≤ 400 ∧ (l.length : Int) ≤ k) ∧ okTo l i)) (fun (i : Nat) (b : Bool) => n - i) (0) (_) (cov_cons (by first | rfl | exact v_int (by omega) | exact v_bool (by simp [*])) (cov_cons (by first | rfl | exact v_int (by omega) | exact v_bool (by simp [*])) (cov_nil))) (fun w h => h) ?_ ?_
      · try dsimp only
        refine ⟨by omega, ⟨fun h => ⟨by first | omega | (simp at h; omega) | (simp at h; done), okTo_zero⟩, fun h => ?_⟩⟩
        first
          | rfl
          | exact decide_eq_true (by omega)
          | (exfalso; have h1 := h.1; omega)
      intro i b hp
      obtain ⟨hi, hb⟩ := hp
      refine tr_seq ?_
      refine tr_region ?_
      refine tl_step rfl (oj_val (y_lss (fe_t rfl) (fe_t rfl)) ?_)
      refine tl_nil ?_
      refine tx_then ?_
      refine tr_seq ?_
      refine tr_condp (fe_t rfl) (fun hq25 => ?_) (fun hq26 => ?_)
      · try (exfalso; omega)
        all_goals
          refine tr_skip ?_
          refine tx_then ?_
          refine tr_seq ?_
          refine tr_block ?_
          refine tr_seq ?_
          refine tr_region ?_
          refine tl_step rfl (oj_val (y_move (fe_t rfl)) ?_)
          refine tl_step rfl (oj_val (y_index Try.underlying87 Try.sizeOf92 (fe_t rfl) (fe_t rfl) (rdl_out hr) (lenK hn) (by decide) (by omega) rfl) ?_)
          refine tl_step rfl (oj_val (y_ldA (cs := [(.int .i64 (k1 l i)), (.int .i64 (k2 l i))]) Try.isAgg92 Try.sizeOf92 (fe_t rfl) (rdl_out hr) rfl (by decide) (getK (by omega))) ?_)
          refine tl_step rfl (oj_alloc Try.zeroValue92 (fun bc => ?_))
          refine tl_step rfl (oj_val (y_assign (fe_t rfl)) ?_)
          refine tl_step rfl (oj_storeW 0 Try.sizeOf92 (fe_t rfl) (fe_t rfl) rfl rfl rfl rfl rfl (?_))
          refine tl_nil ?_
          refine tx_then ?_
          refine tb_draw 27 (sel _ [0]) (fun w h => h.sel _ rfl (by decide)) rfl ?_
          refine tb_float (i := 0) rfl (by kernel_rfl) rfl (wants_none rfl) (yq_of (y_move (fe_t rfl))) ?_
          refine tb_float (i := 1) rfl (by kernel_rfl) rfl (wants_none rfl) (yq_of (y_move (fe_t rfl))) ?_
          refine tb_split (d := 28) rfl (fun hq27 => ?_) (fun hq28 => ?_)
          · try (exfalso; omega)
            all_goals
              refine tb_float (i := 2) rfl (by kernel_rfl) rfl (wants_t rfl rfl rfl) (yq_of (y_fieldAddr (td := 3) Try.underlying92 rfl rfl Try.sizeOf3 (o' := 1) rfl (fe_t rfl))) ?_
              refine tb_float (i := 3) rfl (by kernel_rfl) rfl (wants_t rfl rfl rfl) (yq_of (y_ldb 0 Try.isAgg3 (fe_t rfl) rfl rfl)) ?_
              refine tb_float (i := 4) rfl (by kernel_rfl) rfl (wants_t rfl rfl rfl) (yq_of (y_gtr (fe_t rfl) fe_c)) ?_
              refine tb_float (i := 5) rfl (by kernel_rfl) rfl (wants_none rfl) (yq_of (y_pickt (fe_t rfl) (fe_t rfl))) ?_
              refine tb_float (i := 6) rfl (by kernel_rfl) rfl (wants_none rfl) (yq_of (y_move (fe_t rfl))) ?_
              refine tb_splitp (d := 33) rfl (fun hq29 => ?_) (fun hq30 => ?_)
              · try (exfalso; omega)
                all_goals
                  refine tb_float (i := 7) rfl (by kernel_rfl) rfl (wants_t rfl rfl rfl) (yq_of (y_fieldAddr (td := 3) Try.underlying92 rfl rfl Try.sizeOf3 (o' := 1) rfl (fe_t rfl))) ?_
                  refine tb_float (i := 8) rfl (by kernel_rfl) rfl (wants_t rfl rfl rfl) (yq_of (y_ldb 0 Try.isAgg3 (fe_t rfl) rfl rfl)) ?_
                  refine tb_float (i := 9) rfl (by kernel_rfl) rfl (wants_t rfl rfl rfl) (yq_of (y_leq (fe_t rfl) fe_c)) ?_
                  refine tb_float (i := 10) rfl (by kernel_rfl) rfl (wants_none rfl) (yq_of (y_pickt (fe_t rfl) (fe_t rfl))) ?_
                  refine tb_float (i := 11) rfl (by kernel_rfl) rfl (wants_none rfl) (yq_of (y_move (fe_t rfl))) ?_
                  refine tb_splitp (d := 38) rfl (fun hq31 => ?_) (fun hq32 => ?_)
                  · try (exfalso; omega)
                    all_goals
                      refine tb_float (i := 12) rfl (by kernel_rfl) rfl (wants_t rfl rfl rfl) (yq_of (y_move (fe_t rfl))) ?_
                      refine tb_float (i := 13) rfl (by kernel_rfl) rfl (wants_t rfl rfl rfl) (yq_of (y_eq (fe_t rfl) fe_c)) ?_
                      refine tb_float (i := 14) rfl (by kernel_rfl) rfl (wants_t rfl rfl rfl) (yq_of (y_move (fe_t rfl))) ?_
                      refine tb_splitp (d := 41) rfl (fun hq33 => ?_) (fun hq34 => ?_)
                      · try (exfalso; omega)
                        all_goals
                          refine tb_skip (i := 15) rfl (by kernel_rfl) rfl (wants_f rfl rfl rfl rfl) ?_
                          refine tb_skip (i := 16) rfl (by kernel_rfl) rfl (wants_f rfl rfl rfl rfl) ?_
                          refine tb_skip (i := 17) rfl (by kernel_rfl) rfl (wants_f rfl rfl rfl rfl) ?_
                          refine tb_skip (i := 18) rfl (by kernel_rfl) rfl (wants_f rfl rfl rfl rfl) ?_
                          refine tb_skip (i := 19) rfl (by kernel_rfl) rfl (wants_f rfl rfl rfl rfl) ?_
                          refine tb_skip (i := 20) rfl (by kernel_rfl) rfl (wants_f rfl rfl rfl rfl) ?_
                          refine tb_skip (i := 21) rfl (by kernel_rfl) rfl (wants_f rfl rfl rfl rfl) ?_
                          refine tb_skip (i := 22) rfl (by kernel_rfl) rfl (wants_f rfl rfl rfl rfl) ?_
                          refine tb_skip (i := 23) rfl (by kernel_rfl) rfl (wants_f rfl rfl rfl rfl) ?_
                          refine tb_float (i := 24) rfl (by kernel_rfl) rfl (wants_t rfl rfl rfl) (yq_of (y_pickt (fe_t rfl) fe_c)) ?_
                          refine tb_float (i := 25) rfl (by kernel_rfl) rfl (wants_none rfl) (yq_of (y_pickt (fe_t rfl) (fe_t rfl))) ?_
                          refine tb_float (i := 26) rfl (by kernel_rfl) rfl (wants_none rfl) (yq_of (y_assign (fe_t rfl))) ?_
                          refine tb_done (by kernel_rfl) ?_
                          refine tx_in ?_
                          refine tx_then ?_
                          refine tr_region ?_
                          refine tl_step rfl (oj_val (y_inc (fe_t rfl) fe_c (by omega)) ?_)
                          refine tl_step rfl (oj_val (y_move (fe_t rfl)) ?_)
                          refine tl_nil ?_
                          apply tx_back2 (i + 1) (_)
                          · exact (cov_cons (by first | rfl | exact v_int (by omega) | exact v_bool (by simp [*])) (cov_cons (by first | rfl | exact v_int (by omega) | exact v_bool (by simp [*])) (cov_nil)))
                          · repeat (first | exact over_nil | refine over_put rfl ?_ | refine over_drop rfl ?_)
                          · exact fun w h => h.pick [] _ rfl (by decide)
                          · refine ⟨⟨by omega, ?_⟩, by omega⟩
                            rw [okTo_succ]
                            constructor
                            · intro h
                              first
                                | exact ⟨(hb.1 ‹b = true›).1, (hb.1 ‹b = true›).2, by unfold okAt; first | omega | (simp only [decide_eq_true_eq] at h; omega)⟩
                                | (simp at h; done)
                                | (exfalso; simp_all; done)
                            · rintro ⟨h1, h2, h3⟩
                              unfold okAt at h3
                              first
                                | rfl
                                | exact decide_eq_true (by omega)
                                | (exfalso; omega)
                                | exact absurd (hb.2 ⟨h1, h2⟩) (by simp [*])
                      · try (exfalso; omega)
                        all_goals
                          refine tb_float (i := 15) rfl (by kernel_rfl) rfl (wants_t rfl rfl rfl) (yq_of (y_move (fe_t rfl))) ?_
                          refine tb_float (i := 16) rfl (by kernel_rfl) rfl (wants_t rfl rfl rfl) (yq_of (y_move (fe_t rfl))) ?_
                          refine tb_float (i := 17) rfl (by kernel_rfl) rfl (wants_t rfl rfl rfl) (yq_of (y_sub (fe_t rfl) fe_c (by omega))) ?_
                          refine tb_float (i := 18) rfl (by kernel_rfl) rfl (wants_t rfl rfl rfl) (yq_of (y_index (j := i - 1) Try.underlying87 Try.sizeOf92 (fe_t rfl) (fe_i (by omega) rfl) (rdl_out hr) (lenK hn) (by decide) (by omega) rfl)) ?_
                          refine tb_float (i := 19) rfl (by kernel_rfl) rfl (wants_t rfl rfl rfl) (yq_of (y_fieldAddrE (td := 3) Try.underlying92 rfl rfl Try.sizeOf3 rfl (fe_t rfl) (rdl_out hr) (by rw [lenK hn]; omega))) ?_
                          refine tb_float (i := 20) rfl (by kernel_rfl) rfl (wants_t rfl rfl rfl) (yq_of (y_ld Try.isAgg3 (fe_t rfl) (rdl_out hr) (getK1 (by omega)))) ?_
                          refine tb_float (i := 21) rfl (by kernel_rfl) rfl (wants_t rfl rfl rfl) (yq_of (y_fieldAddr (td := 3) Try.underlying92 rfl rfl Try.sizeOf3 (o' := 0) rfl (fe_t rfl))) ?_
                          refine tb_float (i := 22) rfl (by kernel_rfl) rfl (wants_t rfl rfl rfl) (yq_of (y_ldb 0 Try.isAgg3 (fe_t rfl) rfl rfl)) ?_
                          refine tb_float (i := 23) rfl (by kernel_rfl) rfl (wants_t rfl rfl rfl) (yq_of (y_lss (fe_t rfl) (fe_t rfl))) ?_
                          refine tb_float (i := 24) rfl (by kernel_rfl) rfl (wants_t rfl rfl rfl) (yq_of (y_pickf (fe_t rfl) (fe_t rfl))) ?_
                          refine tb_float (i := 25) rfl (by kernel_rfl) rfl (wants_none rfl) (yq_of (y_pickt (fe_t rfl) (fe_t rfl))) ?_
                          refine tb_float (i := 26) rfl (by kernel_rfl) rfl (wants_none rfl) (yq_of (y_assign (fe_t rfl))) ?_
                          refine tb_done (by kernel_rfl) ?_
                          refine tx_in ?_
                          refine tx_then ?_
                          refine tr_region ?_
                          refine tl_step rfl (oj_val (y_inc (fe_t rfl) fe_c (by omega)) ?_)
                          refine tl_step rfl (oj_val (y_move (fe_t rfl)) ?_)
                          refine tl_nil ?_
                          apply tx_back2 (i + 1) (_)
                          · exact (cov_cons (by first | rfl | exact v_int (by omega) | exact v_bool (by simp [*])) (cov_cons (by first | rfl | exact v_int (by omega) | exact v_bool (by simp [*])) (cov_nil)))
                          · repeat (first | exact over_nil | refine over_put rfl ?_ | refine over_drop rfl ?_)
                          · exact fun w h => h.pick [] _ rfl (by decide)
                          · refine ⟨⟨by omega, ?_⟩, by omega⟩
                            rw [okTo_succ]
                            constructor
                            · intro h
                              first
                                | exact ⟨(hb.1 ‹b = true›).1, (hb.1 ‹b = true›).2, by unfold okAt; first | omega | (simp only [decide_eq_true_eq] at h; omega)⟩
                                | (simp at h; done)
                                | (exfalso; simp_all; done)
                            · rintro ⟨h1, h2, h3⟩
                              unfold okAt at h3
                              first
                                | rfl
                                | exact decide_eq_true (by omega)
                                | (exfalso; omega)
                                | exact absurd (hb.2 ⟨h1, h2⟩) (by simp [*])
                  · try (exfalso; omega)
                    all_goals
                      refine tb_skip (i := 12) rfl (by kernel_rfl) rfl (wants_f rfl rfl rfl rfl) ?_
                      refine tb_skip (i := 13) rfl (by kernel_rfl) rfl (wants_f rfl rfl rfl rfl) ?_
                      refine tb_skip (i := 14) rfl (by kernel_rfl) rfl (wants_f rfl rfl rfl rfl) ?_
                      refine tb_skip (i := 15) rfl (by kernel_rfl) rfl (wants_undef rfl rfl rfl) ?_
                      refine tb_skip (i := 16) rfl (by kernel_rfl) rfl (wants_undef rfl rfl rfl) ?_
                      refine tb_skip (i := 17) rfl (by kernel_rfl) rfl (wants_undef rfl rfl rfl) ?_
                      refine tb_skip (i := 18) rfl (by kernel_rfl) rfl (wants_undef rfl rfl rfl) ?_
                      refine tb_skip (i := 19) rfl (by kernel_rfl) rfl (wants_undef rfl rfl rfl) ?_
                      refine tb_skip (i := 20) rfl (by kernel_rfl) rfl (wants_undef rfl rfl rfl) ?_
                      refine tb_skip (i := 21) rfl (by kernel_rfl) rfl (wants_undef rfl rfl rfl) ?_
                      refine tb_skip (i := 22) rfl (by kernel_rfl) rfl (wants_undef rfl rfl rfl) ?_
                      refine tb_skip (i := 23) rfl (by kernel_rfl) rfl (wants_undef rfl rfl rfl) ?_
                      refine tb_skip (i := 24) rfl (by kernel_rfl) rfl (wants_f rfl rfl rfl rfl) ?_
                      refine tb_float (i := 25) rfl (by kernel_rfl) rfl (wants_none rfl) (yq_of (y_pickf (fe_t rfl) fe_c)) ?_
                      refine tb_float (i := 26) rfl (by kernel_rfl) rfl (wants_none rfl) (yq_of (y_assign (fe_t rfl))) ?_
                      refine tb_done (by kernel_rfl) ?_
                      refine tx_in ?_
                      refine tx_then ?_
                      refine tr_region ?_
                      refine tl_step rfl (oj_val (y_inc (fe_t rfl) fe_c (by omega)) ?_)
                      refine tl_step rfl (oj_val (y_move (fe_t rfl)) ?_)
                      refine tl_nil ?_
                      apply tx_back2 (i + 1) (_)
                      · exact (cov_cons (by first | rfl | exact v_int (by omega) | exact v_bool (by simp [*])) (cov_cons (by first | rfl | exact v_int (by omega) | exact v_bool (by simp [*])) (cov_nil)))
                      · repeat (first | exact over_nil | refine over_put rfl ?_ | refine over_drop rfl ?_)
                      · exact fun w h => h.pick [] _ rfl (by decide)
                      · refine ⟨⟨by omega, ?_⟩, by omega⟩
                        rw [okTo_succ]
                        constructor
                        · intro h
                          first
                            | exact ⟨(hb.1 ‹b = true›).1, (hb.1 ‹b = true›).2, by unfold okAt; first | omega | (simp only [decide_eq_true_eq] at h; omega)⟩
                            | (simp at h; done)
                            | (exfalso; simp_all; done)
                        · rintro ⟨h1, h2, h3⟩
                          unfold okAt at h3
                          first
                            | rfl
                            | exact decide_eq_true (by omega)
                            | (exfalso; omega)
                            | exact absurd (hb.2 ⟨h1, h2⟩) (by simp [*])
              · try (exfalso; omega)
                all_goals
                  refine tb_skip (i := 7) rfl (by kernel_rfl) rfl (wants_f rfl rfl rfl rfl) ?_
                  refine tb_skip (i := 8) rfl (by kernel_rfl) rfl (wants_f rfl rfl rfl rfl) ?_
                  refine tb_skip (i := 9) rfl (by kernel_rfl) rfl (wants_f rfl rfl rfl rfl) ?_
                  refine tb_float (i := 10) rfl (by kernel_rfl) rfl (wants_none rfl) (yq_of (y_pickf (fe_t rfl) fe_c)) ?_
                  refine tb_float (i := 11) rfl (by kernel_rfl) rfl (wants_none rfl) (yq_of (y_move (fe_t rfl))) ?_
                  refine tb_skip (i := 12) rfl (by kernel_rfl) rfl (wants_f rfl rfl rfl rfl) ?_
                  refine tb_skip (i := 13) rfl (by kernel_rfl) rfl (wants_f rfl rfl rfl rfl) ?_
                  refine tb_skip (i := 14) rfl (by kernel_rfl) rfl (wants_f rfl rfl rfl rfl) ?_
                  refine tb_skip (i := 15) rfl (by kernel_rfl) rfl (wants_undef rfl rfl rfl) ?_
                  refine tb_skip (i := 16) rfl (by kernel_rfl) rfl (wants_undef rfl rfl rfl) ?_
                  refine tb_skip (i := 17) rfl (by kernel_rfl) rfl (wants_undef rfl rfl rfl) ?_
                  refine tb_skip (i := 18) rfl (by kernel_rfl) rfl (wants_undef rfl rfl rfl) ?_
                  refine tb_skip (i := 19) rfl (by kernel_rfl) rfl (wants_undef rfl rfl rfl) ?_
                  refine tb_skip (i := 20) rfl (by kernel_rfl) rfl (wants_undef rfl rfl rfl) ?_
                  refine tb_skip (i := 21) rfl (by kernel_rfl) rfl (wants_undef rfl rfl rfl) ?_
                  refine tb_skip (i := 22) rfl (by kernel_rfl) rfl (wants_undef rfl rfl rfl) ?_
                  refine tb_skip (i := 23) rfl (by kernel_rfl) rfl (wants_undef rfl rfl rfl) ?_
                  refine tb_skip (i := 24) rfl (by kernel_rfl) rfl (wants_f rfl rfl rfl rfl) ?_
                  refine tb_float (i := 25) rfl (by kernel_rfl) rfl (wants_none rfl) (yq_of (y_pickf (fe_t rfl) fe_c)) ?_
                  refine tb_float (i := 26) rfl (by kernel_rfl) rfl (wants_none rfl) (yq_of (y_assign (fe_t rfl))) ?_
                  refine tb_done (by kernel_rfl) ?_
                  refine tx_in ?_
                  refine tx_then ?_
                  refine tr_region ?_
                  refine tl_step rfl (oj_val (y_inc (fe_t rfl) fe_c (by omega)) ?_)
                  refine tl_step rfl (oj_val (y_move (fe_t rfl)) ?_)
                  refine tl_nil ?_
                  apply tx_back2 (i + 1) (_)
                  · exact (cov_cons (by first | rfl | exact v_int (by omega) | exact v_bool (by simp [*])) (cov_cons (by first | rfl | exact v_int (by omega) | exact v_bool (by simp [*])) (cov_nil)))
                  · repeat (first | exact over_nil | refine over_put rfl ?_ | refine over_drop rfl ?_)
                  · exact fun w h => h.pick [] _ rfl (by decide)
                  · refine ⟨⟨by omega, ?_⟩, by omega⟩
                    rw [okTo_succ]
                    constructor
                    · intro h
                      first
                        | exact ⟨(hb.1 ‹b = true›).1, (hb.1 ‹b = true›).2, by unfold okAt; first | omega | (simp only [decide_eq_true_eq] at h; omega)⟩
                        | (simp at h; done)
                        | (exfalso; simp_all; done)
                    · rintro ⟨h1, h2, h3⟩
                      unfold okAt at h3
                      first
                        | rfl
                        | exact decide_eq_true (by omega)
                        | (exfalso; omega)
                        | exact absurd (hb.2 ⟨h1, h2⟩) (by simp [*])
          · try (exfalso; omega)
            all_goals
              refine tb_skip (i := 2) rfl (by kernel_rfl) rfl (wants_f rfl rfl rfl rfl) ?_
              refine tb_skip (i := 3) rfl (by kernel_rfl) rfl (wants_f rfl rfl rfl rfl) ?_
              refine tb_skip (i := 4) rfl (by kernel_rfl) rfl (wants_f rfl rfl rfl rfl) ?_
              refine tb_float (i := 5) rfl (by kernel_rfl) rfl (wants_none rfl) (yq_of (y_pickf (fe_t rfl) fe_c)) ?_
              refine tb_float (i := 6) rfl (by kernel_rfl) rfl (wants_none rfl) (yq_of (y_move (fe_t rfl))) ?_
              refine tb_skip (i := 7) rfl (by kernel_rfl) rfl (wants_f rfl rfl rfl rfl) ?_
              refine tb_skip (i := 8) rfl (by kernel_rfl) rfl (wants_f rfl rfl rfl rfl) ?_
              refine tb_skip (i := 9) rfl (by kernel_rfl) rfl (wants_f rfl rfl rfl rfl) ?_
              refine tb_float (i := 10) rfl (by kernel_rfl) rfl (wants_none rfl) (yq_of (y_pickf (fe_t rfl) fe_c)) ?_
              refine tb_float (i := 11) rfl (by kernel_rfl) rfl (wants_none rfl) (yq_of (y_move (fe_t rfl))) ?_
              refine tb_skip (i := 12) rfl (by kernel_rfl) rfl (wants_f rfl rfl rfl rfl) ?_
              refine tb_skip (i := 13) rfl (by kernel_rfl) rfl (wants_f rfl rfl rfl rfl) ?_
              refine tb_skip (i := 14) rfl (by kernel_rfl) rfl (wants_f rfl rfl rfl rfl) ?_
              refine tb_skip (i := 15) rfl (by kernel_rfl) rfl (wants_undef rfl rfl rfl) ?_
              refine tb_skip (i := 16) rfl (by kernel_rfl) rfl (wants_undef rfl rfl rfl) ?_
              refine tb_skip (i := 17) rfl (by kernel_rfl) rfl (wants_undef rfl rfl rfl) ?_
              refine tb_skip (i := 18) rfl (by kernel_rfl) rfl (wants_undef rfl rfl rfl) ?_
              refine tb_skip (i := 19) rfl (by kernel_rfl) rfl (wants_undef rfl rfl rfl) ?_
              refine tb_skip (i := 20) rfl (by kernel_rfl) rfl (wants_undef rfl rfl rfl) ?_
              refine tb_skip (i := 21) rfl (by kernel_rfl) rfl (wants_undef rfl rfl rfl) ?_
              refine tb_skip (i := 22) rfl (by kernel_rfl) rfl (wants_undef rfl rfl rfl) ?_
              refine tb_skip (i := 23) rfl (by kernel_rfl) rfl (wants_undef rfl rfl rfl) ?_
              refine tb_skip (i := 24) rfl (by kernel_rfl) rfl (wants_f rfl rfl rfl rfl) ?_
              refine tb_float (i := 25) rfl (by kernel_rfl) rfl (wants_none rfl) (yq_of (y_pickf (fe_t rfl) fe_c)) ?_
              refine tb_float (i := 26) rfl (by kernel_rfl) rfl (wants_none rfl) (yq_of (y_assign (fe_t rfl))) ?_
              refine tb_done (by kernel_rfl) ?_
              refine tx_in ?_
              refine tx_then ?_
              refine tr_region ?_
              refine tl_step rfl (oj_val (y_inc (fe_t rfl) fe_c (by omega)) ?_)
              refine tl_step rfl (oj_val (y_move (fe_t rfl)) ?_)
              refine tl_nil ?_
              apply tx_back2 (i + 1) (_)
              · exact (cov_cons (by first | rfl | exact v_int (by omega) | exact v_bool (by simp [*])) (cov_cons (by first | rfl | exact v_int (by omega) | exact v_bool (by simp [*])) (cov_nil)))
              · repeat (first | exact over_nil | refine over_put rfl ?_ | refine over_drop rfl ?_)
              · exact fun w h => h.pick [] _ rfl (by decide)
              · refine ⟨⟨by omega, ?_⟩, by omega⟩
                rw [okTo_succ]
                constructor
                · intro h
                  first
                    | exact ⟨(hb.1 ‹b = true›).1, (hb.1 ‹b = true›).2, by unfold okAt; first | omega | (simp only [decide_eq_true_eq] at h; omega)⟩
                    | (simp at h; done)
                    | (exfalso; simp_all; done)
                · rintro ⟨h1, h2, h3⟩
                  unfold okAt at h3
                  first
                    | rfl
                    | exact decide_eq_true (by omega)
                    | (exfalso; omega)
                    | exact absurd (hb.2 ⟨h1, h2⟩) (by simp [*])
      · try (exfalso; omega)
        all_goals
          refine tr_exit ?_
          refine tx_then_exit ?_
          refine tx_then_exit ?_
          refine tx_in_exit ?_
          refine tx_then ?_
          refine tr_seq ?_
          refine tr_region ?_
          refine tl_step rfl (oj_val (y_move (fe_t rfl)) ?_)
          refine tl_step rfl (oj_val (y_assign (fe_t rfl)) ?_)
          refine tl_nil ?_
          refine tx_then ?_
          refine tr_ret ?_
          refine tx_ret (res1 Try.results91 (rok_t rfl)) (fun w' hS => ?_)
          obtain rfl : i = l.length := by omega
          exact ⟨ret_bool (by rw [Bool.eq_iff_iff, rB_iff]; exact hb), hS.pick [] _ rfl (by decide)⟩

set_option maxRecDepth 100000 in
set_option maxHeartbeats 2000000 in
theorem lessE (A : Option Addr) (n c : Nat) (l : List (Int × Int)) (w : World) (hr : Rd w A (l.flatMap c2)) (hn : l.length = n) (hm : n ≤ 140737488355328) {x : Int} (hx : 0 ≤ x) (hk : ∀ i, k2 l i ≤ 9223372036854775807) (h4 : n ≤ 1000000) :
    Calls Try.prog 90 #[.slice A n c, (.int .i64 x)] w fun e w' => ∃ r : Vs, (r.n = (lessF l x).length ∧ r.xs = (lessF l x).flatMap c2) ∧ e = .returned (.slice r.A r.n r.c) ∧ St w w' [vec 92 2 (.slice r.A r.n r.c) r.n r.xs] := by
  refine calls_tr Try.func90 Try.ntmps90 rfl rfl (St.refl _) ?_
  refine tr_seq ?_
  refine tr_region ?_
  refine tl_step rfl (oj_val (y_assign fe_c) ?_)
  refine tl_nil ?_
  refine tx_then ?_
  refine tr_seq ?_
  refine tr_region ?_
  refine tl_step rfl (oj_val (y_assign fe_c) ?_)
  refine tl_nil ?_
  refine tx_then ?_
  refine tr_seq ?_
  refine tr_seq ?_
  refine tr_region ?_
  refine tl_step rfl (oj_val (y_move (fe_t rfl)) ?_)
  refine tl_step rfl (oj_val (y_len Try.underlying87 (fe_t rfl)) ?_)
  refine tl_step rfl (oj_val (y_move fe_c) ?_)
  refine tl_nil ?_
  refine tx_then ?_
  refine tr_block ?_
  refine tr_add (r := vec 92 2 (.slice none 0 0) 0 []) vec_nil rfl ?_
  refine tr_loop2 [5, 7, 10, 11, 12, 13, 14, 15, 16, 17, 18, 19, 20, 21, 22, 23, 24, 25, 26, 27, 28] (fun (i : Nat) (z1 : Vs) => [(10, .int .i64 (i : Int)), (5, .slice z1.A z1.n z1.c)]) 0 (fun (i : Nat) (z1 : Vs) => [(0, vec 92 2 (.slice z1.A z1.n z1.c) z1.n z1.xs)]) (fun (i : Nat) (z1 : Vs) => i ≤ n ∧ z1.n = (lessF (l.take i) x).length ∧ z1.xs = (lessF (l.take i) x).flatMap c2) (fun (i : Nat) (z1 : Vs) => n - i) (0) (⟨none, 0, 0, []⟩ : Vs) (cov_cons (by first | rfl | exact v_int (by omega) | exact v_bool (by simp [*])) (cov_cons (by first | rfl | exact v_int (by omega) | exact v_bool (by simp [*])) (cov_nil))) (fun w h => h) ?_ ?_
  · try dsimp only
    exact ⟨by omega, rfl, rfl⟩
  intro i z1 hp
  obtain ⟨hi, hzn, hzx⟩ := hp
  have hll := lessF_len (l := l.take i) (n := x)
  rw [List.length_take] at hll
  refine tr_seq ?_
  refine tr_region ?_
  refine tl_step rfl (oj_val (y_lss (fe_t rfl) (fe_t rfl)) ?_)
  refine tl_nil ?_
  refine tx_then ?_
  refine tr_seq ?_
  refine tr_condp (fe_t rfl) (fun hq1 => ?_) (fun hq2 => ?_)
  · try (exfalso; omega)
    all_goals
      refine tr_skip ?_
      refine tx_then ?_
      refine tr_seq ?_
      refine tr_block ?_
      refine tr_seq ?_
      refine tr_region ?_
      refine tl_step rfl (oj_val (y_index Try.underlying87 Try.sizeOf92 (fe_t rfl) (fe_t rfl) (rdl_out hr) (lenK hn) (by decide) (by omega) rfl) ?_)
      refine tl_step rfl (oj_val (y_ldA (cs := [(.int .i64 (k1 l i)), (.int .i64 (k2 l i))]) Try.isAgg92 Try.sizeOf92 (fe_t rfl) (rdl_out hr) rfl (by decide) (getK (by omega))) ?_)
      refine tl_step rfl (oj_alloc Try.zeroValue92 (fun bc => ?_))
      refine tl_step rfl (oj_storeW 0 Try.sizeOf92 (fe_t rfl) (fe_t rfl) rfl rfl rfl rfl rfl (?_))
      refine tl_nil ?_
      refine tx_then ?_
      refine tr_seq ?_
      refine tr_region ?_
      refine tl_step rfl (oj_val (y_fieldAddr (td := 3) Try.underlying92 rfl rfl Try.sizeOf3 (o' := 1) rfl (fe_t rfl)) ?_)
      refine tl_step rfl (oj_val (y_ldb 0 Try.isAgg3 (fe_t rfl) rfl rfl) ?_)
      refine tl_step rfl (oj_val (y_move (fe_t rfl)) ?_)
      refine tl_step rfl (oj_val (y_gtr (fe_t rfl) (fe_t rfl)) ?_)
      refine tl_nil ?_
      refine tx_then ?_
      refine tr_condp (fe_t rfl) (fun hq3 => ?_) (fun hq4 => ?_)
      · try (exfalso; omega)
        all_goals
          have hki := hk i
          refine tr_region ?_
          refine tl_step rfl (oj_val (y_move (fe_t rfl)) ?_)
          refine tl_step rfl (oj_val (y_fieldAddr (td := 3) Try.underlying92 rfl rfl Try.sizeOf3 (o' := 0) rfl (fe_t rfl)) ?_)
          refine tl_step rfl (oj_val (y_ldb 0 Try.isAgg3 (fe_t rfl) rfl rfl) ?_)
          refine tl_step rfl (oj_val (y_fieldAddr (td := 3) Try.underlying92 rfl rfl Try.sizeOf3 (o' := 1) rfl (fe_t rfl)) ?_)
          refine tl_step rfl (oj_val (y_ldb 0 Try.isAgg3 (fe_t rfl) rfl rfl) ?_)
          refine tl_step rfl (oj_val (y_move (fe_t rfl)) ?_)
          refine tl_step rfl (oj_val (y_sub (fe_t rfl) (fe_t rfl) (by omega)) ?_)
          refine tl_step rfl (oj_val ((fun {u0 u1} hx hb => y_build (is := [0, 1]) (vs := [u0, u1]) (cs := [u0, u1]) rfl hx hb) (fel_cons (fe_t rfl) (fel_cons (fe_t rfl) fel_nil)) (by kernel_rfl)) ?_)
          refine tl_step rfl (oj_slice1 Try.underlying87 Try.sizeOf92 Try.zeroValue92 (fe_t rfl) (by decide) rfl (fun b1 => ?_))
          refine tl_step rfl (oj_append (i := 2) (s := 2) (z := (.agg #[.int .i64 0, .int .i64 0])) (bytes := 16) Try.underlying87 (by kernel_rfl) (fe_t rfl) (fe_t rfl) rfl (rdl_blk 0 rfl) rfl (by decide) (by first | exact oneI | exact oneF (fun _ => rfl) | exact fun u hu => List.all_eq_true.1 (show List.all _ (fun x => x.oneCell') = true from rfl) u hu | (intro u hu; revert u hu; simp [Value.oneCell'])) (by decide) ⟨by omega, by decide⟩ (fun Aa1 ca1 hca1 => ?_))
          refine tl_step rfl (oj_val (y_assign (fe_t rfl)) ?_)
          refine tl_nil ?_
          refine tx_in ?_
          refine tx_then ?_
          refine tr_region ?_
          refine tl_step rfl (oj_val (y_inc (fe_t rfl) fe_c (by omega)) ?_)
          refine tl_step rfl (oj_val (y_move (fe_t rfl)) ?_)
          refine tl_nil ?_
          apply tx_back2 (i + 1) ((⟨_, _, _, _⟩ : Vs))
          · exact (cov_cons (by first | rfl | exact v_int (by omega) | exact v_bool (by simp [*])) (cov_cons (by first | rfl | exact v_int (by omega) | exact v_bool (by simp [*])) (cov_nil)))
          · repeat (first | exact over_nil | refine over_put rfl ?_ | refine over_drop rfl ?_)
          · exact fun w h => h.pick [2] _ rfl (by decide)
          · refine ⟨⟨by omega, ?_⟩, by omega⟩
            rw [take_succ_k (by omega), lessF_append, show lessF [(k1 l i, k2 l i)] x = [(k1 l i, k2 l i - x)] by simp [lessF]; omega]
            exact ⟨by dsimp only; simp; omega, by dsimp only; rw [hzx, List.flatMap_append]; rfl⟩
      · try (exfalso; omega)
        all_goals
          refine tr_skip ?_
          refine tx_in ?_
          refine tx_then ?_
          refine tr_region ?_
          refine tl_step rfl (oj_val (y_inc (fe_t rfl) fe_c (by omega)) ?_)
          refine tl_step rfl (oj_val (y_move (fe_t rfl)) ?_)
          refine tl_nil ?_
          apply tx_back2 (i + 1) ((⟨_, _, _, _⟩ : Vs))
          · exact (cov_cons (by first | rfl | exact v_int (by omega) | exact v_bool (by simp [*])) (cov_cons (by first | rfl | exact v_int (by omega) | exact v_bool (by simp [*])) (cov_nil)))
          · repeat (first | exact over_nil | refine over_put rfl ?_ | refine over_drop rfl ?_)
          · exact fun w h => h.pick [1] _ rfl (by decide)
          · refine ⟨⟨by omega, ?_⟩, by omega⟩
            rw [take_succ_k (by omega), lessF_append, show lessF [(k1 l i, k2 l i)] x = [] by simp [lessF]; omega, List.append_nil]
            exact ⟨by dsimp only; omega, by dsimp only; rw [hzx]⟩
  · try (exfalso; omega)
    all_goals
      refine tr_exit ?_
      refine tx_then_exit ?_
      refine tx_then_exit ?_
      refine tx_in_exit ?_
      refine tx_then ?_
      refine tr_seq ?_
      refine tr_region ?_
      refine tl_step rfl (oj_val (y_move (fe_t rfl)) ?_)
      refine tl_step rfl (oj_val (y_assign (fe_t rfl)) ?_)
      refine tl_nil ?_
      refine tx_then ?_
      refine tr_ret ?_
      refine tx_ret (res1 Try.results90 (rok_t rfl)) (fun w' hS => ?_)
      exact ⟨z1, ⟨by rw [hzn, List.take_of_length_le (by omega)], by rw [hzx, List.take_of_length_le (by omega)]⟩, rfl, hS.pick [0] _ rfl (by decide)⟩

def cmp3 (a x : Int) : Int := if a < x then -1 else if x < a then 1 else 0
theorem cmp3_lt {a x : Int} : cmp3 a x < 0 ↔ a < x := by unfold cmp3; split <;> (try split) <;> omega
theorem cmp3_eq {a x : Int} : cmp3 a x = 0 ↔ a = x := by unfold cmp3; split <;> (try split) <;> omega

theorem half_nat (i j : Nat) : ((i : Int) + (j : Int)).fdiv (2 ^ (min (1 : Int).toNat IntKind.u64.bits)) = (((i + j) / 2 : Nat) : Int) := by
  rw [show (2 : Int) ^ (min (1 : Int).toNat IntKind.u64.bits) = 2 from rfl, Int.fdiv_eq_ediv_of_nonneg _ (by decide)]
  omega



end Go.Proofs.Ytpknjfeiiaopgaa.Heavy
