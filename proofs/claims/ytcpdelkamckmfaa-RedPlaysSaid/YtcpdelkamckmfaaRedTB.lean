/- TPlay, case B. -/
import Derived.Test.YtcpdelkamckmfaaRedT
namespace Go.Proofs.Ytcpdelkamckmfaa.Red
open Go.RowKit Go.Proofs.Ytcpdelkamckmfaa.E Go.Proofs.Ytcpdelkamckmfaa.Big Go.Proofs.Ytcpdelkamckmfaa.Frac

set_option maxRecDepth 100000 in
set_option maxHeartbeats 4000000 in
theorem tplay_B (tg iv : Int) (A : Option Addr) (n c : Nat) (l : List (Int × Int)) (w : World) (hr : Rd w A (l.flatMap c2)) (hn : l.length = n) (hg : 0 ≤ tg ∧ tg ≤ 1048576 ∧ 1 ≤ iv ∧ iv ≤ 1048576 ∧ n ≤ 400) (hb : ∃ k, k < n ∧ ¬ Fine l k) :
    Calls Try.prog 55 #[(.int .i64 tg), (.int .i64 iv), .slice A n c] w fun e w' => e = .returned (.tuple #[.slice none 0 0, (.int .i64 1)]) ∧ St w w' [] := by
  obtain ⟨h1, h2, h3, h4, h5⟩ := hg
  refine calls_tr Try.func55 Try.ntmps55 rfl rfl (St.refl _) ?_
  refine tr_seq ?_
  refine tr_region ?_
  refine tl_step rfl (oj_val (y_assign fe_c) ?_)
  refine tl_step rfl (oj_val (y_assign fe_c) ?_)
  refine tl_nil ?_
  refine tx_then ?_
  refine tr_seq ?_
  refine tr_seq ?_
  refine tr_region ?_
  refine tl_step rfl (oj_val (y_move (fe_t rfl)) ?_)
  refine tl_step rfl (oj_val (y_lss (fe_t rfl) fe_c) ?_)
  refine tl_step rfl (oj_val (y_move (fe_t rfl)) ?_)
  refine tl_splitp (d := 18) rfl (fun hq1 => ?_) (fun hq2 => ?_)
  · try (exfalso; omega)
    all_goals
      refine tl_skip rfl rfl rfl rfl ?_
      refine tl_skip rfl rfl rfl rfl ?_
      refine tl_step rfl (oj_val (y_pickt (fe_t rfl) fe_c) ?_)
      refine tl_step rfl (oj_val (y_move (fe_t rfl)) ?_)
      refine tl_skip rfl rfl rfl rfl ?_
      refine tl_skip rfl rfl rfl rfl ?_
      refine tl_step rfl (oj_val (y_pickt (fe_t rfl) fe_c) ?_)
      refine tl_step rfl (oj_val (y_move (fe_t rfl)) ?_)
      refine tl_skip rfl rfl rfl rfl ?_
      refine tl_skip rfl rfl rfl rfl ?_
      refine tl_step rfl (oj_val (y_pickt (fe_t rfl) fe_c) ?_)
      refine tl_step rfl (oj_val (y_move (fe_t rfl)) ?_)
      refine tl_skip rfl rfl rfl rfl ?_
      refine tl_skip rfl rfl rfl rfl ?_
      refine tl_skip rfl rfl rfl rfl ?_
      refine tl_step rfl (oj_val (y_pickt (fe_t rfl) fe_c) ?_)
      refine tl_nil ?_
      refine tx_then ?_
      exfalso; omega
  · try (exfalso; omega)
    all_goals
      refine tl_want rfl rfl rfl (oj_val (y_move (fe_t rfl)) ?_)
      refine tl_want rfl rfl rfl (oj_val (y_gtr (fe_t rfl) fe_c) ?_)
      refine tl_step rfl (oj_val (y_pickf (fe_t rfl) (fe_t rfl)) ?_)
      refine tl_step rfl (oj_val (y_move (fe_t rfl)) ?_)
      refine tl_splitp (d := 22) rfl (fun hq3 => ?_) (fun hq4 => ?_)
      · try (exfalso; omega)
        all_goals
          refine tl_skip rfl rfl rfl rfl ?_
          refine tl_skip rfl rfl rfl rfl ?_
          refine tl_step rfl (oj_val (y_pickt (fe_t rfl) fe_c) ?_)
          refine tl_step rfl (oj_val (y_move (fe_t rfl)) ?_)
          refine tl_skip rfl rfl rfl rfl ?_
          refine tl_skip rfl rfl rfl rfl ?_
          refine tl_step rfl (oj_val (y_pickt (fe_t rfl) fe_c) ?_)
          refine tl_step rfl (oj_val (y_move (fe_t rfl)) ?_)
          refine tl_skip rfl rfl rfl rfl ?_
          refine tl_skip rfl rfl rfl rfl ?_
          refine tl_skip rfl rfl rfl rfl ?_
          refine tl_step rfl (oj_val (y_pickt (fe_t rfl) fe_c) ?_)
          refine tl_nil ?_
          refine tx_then ?_
          exfalso; omega
      · try (exfalso; omega)
        all_goals
          refine tl_want rfl rfl rfl (oj_val (y_move (fe_t rfl)) ?_)
          refine tl_want rfl rfl rfl (oj_val (y_lss (fe_t rfl) fe_c) ?_)
          refine tl_step rfl (oj_val (y_pickf (fe_t rfl) (fe_t rfl)) ?_)
          refine tl_step rfl (oj_val (y_move (fe_t rfl)) ?_)
          refine tl_splitp (d := 26) rfl (fun hq5 => ?_) (fun hq6 => ?_)
          · try (exfalso; omega)
            all_goals
              refine tl_skip rfl rfl rfl rfl ?_
              refine tl_skip rfl rfl rfl rfl ?_
              refine tl_step rfl (oj_val (y_pickt (fe_t rfl) fe_c) ?_)
              refine tl_step rfl (oj_val (y_move (fe_t rfl)) ?_)
              refine tl_skip rfl rfl rfl rfl ?_
              refine tl_skip rfl rfl rfl rfl ?_
              refine tl_skip rfl rfl rfl rfl ?_
              refine tl_step rfl (oj_val (y_pickt (fe_t rfl) fe_c) ?_)
              refine tl_nil ?_
              refine tx_then ?_
              exfalso; omega
          · try (exfalso; omega)
            all_goals
              refine tl_want rfl rfl rfl (oj_val (y_move (fe_t rfl)) ?_)
              refine tl_want rfl rfl rfl (oj_val (y_gtr (fe_t rfl) fe_c) ?_)
              refine tl_step rfl (oj_val (y_pickf (fe_t rfl) (fe_t rfl)) ?_)
              refine tl_step rfl (oj_val (y_move (fe_t rfl)) ?_)
              refine tl_splitp (d := 30) rfl (fun hq7 => ?_) (fun hq8 => ?_)
              · try (exfalso; omega)
                all_goals
                  refine tl_skip rfl rfl rfl rfl ?_
                  refine tl_skip rfl rfl rfl rfl ?_
                  refine tl_skip rfl rfl rfl rfl ?_
                  refine tl_step rfl (oj_val (y_pickt (fe_t rfl) fe_c) ?_)
                  refine tl_nil ?_
                  refine tx_then ?_
                  exfalso; omega
              · try (exfalso; omega)
                all_goals
                  refine tl_want rfl rfl rfl (oj_val (y_move (fe_t rfl)) ?_)
                  refine tl_want rfl rfl rfl (oj_val (y_len Try.underlying71 (fe_t rfl)) ?_)
                  refine tl_want rfl rfl rfl (oj_val (y_gtr (fe_t rfl) fe_c) ?_)
                  refine tl_step rfl (oj_val (y_pickf (fe_t rfl) (fe_t rfl)) ?_)
                  refine tl_nil ?_
                  refine tx_then ?_
                  refine tr_condp (fe_t rfl) (fun hq9 => ?_) (fun hq10 => ?_)
                  · exfalso; omega
                  · try (exfalso; omega)
                    all_goals
                      refine tr_skip ?_
                      refine tx_then ?_
                      refine tr_seq ?_
                      refine tr_seq ?_
                      refine tr_region ?_
                      refine tl_step rfl (oj_val (y_move (fe_t rfl)) ?_)
                      refine tl_step rfl (oj_val (y_len Try.underlying71 (fe_t rfl)) ?_)
                      refine tl_step rfl (oj_val (y_move fe_c) ?_)
                      refine tl_nil ?_
                      refine tx_then ?_
                      refine tr_block ?_
                      refine tr_loop1 [6, 7, 8, 9, 37, 38, 39, 40, 41, 42, 43, 44, 45, 46, 47, 48, 49, 50, 51, 52, 53, 54, 55, 56, 57, 58, 59, 60, 61, 62, 63, 64, 65, 66, 67, 68, 69, 70, 71, 72, 73, 74, 75] (fun (k : Nat) => [(37, .int .i64 (k : Int))]) 0 (fun (k : Nat) => []) (fun (k : Nat) => k ≤ n ∧ ∀ j, j < k → Fine l j) (fun (k : Nat) => n - k) (0) (cov_cons (by first | rfl | exact v_int (by omega) | exact v_bool (by simp [*])) (cov_nil)) (fun w h => h) ?_ ?_
                      · try dsimp only
                        exact ⟨by omega, fun j h => by omega⟩
                      intro k hp
                      obtain ⟨hk, hfi⟩ := hp
                      refine tr_seq ?_
                      refine tr_region ?_
                      refine tl_step rfl (oj_val (y_lss (fe_t rfl) (fe_t rfl)) ?_)
                      refine tl_nil ?_
                      refine tx_then ?_
                      refine tr_seq ?_
                      refine tr_condp (fe_t rfl) (fun hq11 => ?_) (fun hq12 => ?_)
                      · try (exfalso; omega)
                        all_goals
                          refine tr_skip ?_
                          refine tx_then ?_
                          refine tr_seq ?_
                          refine tr_block ?_
                          refine tr_seq ?_
                          refine tr_region ?_
                          refine tl_step rfl (oj_val (y_move (fe_t rfl)) ?_)
                          refine tl_step rfl (oj_val (y_index Try.underlying71 Try.sizeOf164 (fe_t rfl) (fe_t rfl) (rdl_out hr) (lenF (fun _ => rfl) hn) (by decide) (by omega) rfl) ?_)
                          refine tl_step rfl (oj_val (y_ldA Try.isAgg164 Try.sizeOf164 (fe_t rfl) (rdl_out hr) rfl (by decide) (getF (c := c2) (l := l) (fun _ => rfl) (by omega))) ?_)
                          refine tl_step rfl (oj_alloc Try.zeroValue164 (fun xb => ?_))
                          refine tl_step rfl (oj_val (y_assign (fe_t rfl)) ?_)
                          refine tl_step rfl (oj_storeW 0 Try.sizeOf164 (fe_t rfl) (fe_t rfl) rfl rfl rfl rfl rfl (?_))
                          refine tl_nil ?_
                          refine tx_then ?_
                          refine tr_seq ?_
                          refine tb_draw 33 (sel _ [0]) (fun w h => h.sel _ rfl (by decide)) rfl ?_
                          refine tb_float (i := 0) rfl (by kernel_rfl) rfl (wants_none rfl) (yq_of (y_fieldAddr (td := 3) Try.underlying164 rfl rfl Try.sizeOf3 (o' := 0) rfl (fe_t rfl))) ?_
                          refine tb_float (i := 1) rfl (by kernel_rfl) rfl (wants_none rfl) (yq_of (y_ldb 0 Try.isAgg3 (fe_t rfl) rfl rfl)) ?_
                          refine tb_float (i := 2) rfl (by kernel_rfl) rfl (wants_none rfl) (yq_of (y_lss (fe_t rfl) fe_c)) ?_
                          refine tb_float (i := 3) rfl (by kernel_rfl) rfl (wants_none rfl) (yq_of (y_move (fe_t rfl))) ?_
                          refine tb_splitp (d := 45) rfl (fun hq13 => ?_) (fun hq14 => ?_)
                          · try (exfalso; omega)
                            all_goals
                              refine tb_skip (i := 4) rfl (by kernel_rfl) rfl (wants_f rfl rfl rfl rfl) ?_
                              refine tb_skip (i := 5) rfl (by kernel_rfl) rfl (wants_f rfl rfl rfl rfl) ?_
                              refine tb_skip (i := 6) rfl (by kernel_rfl) rfl (wants_f rfl rfl rfl rfl) ?_
                              refine tb_skip (i := 7) rfl (by kernel_rfl) rfl (wants_undef rfl rfl rfl) ?_
                              refine tb_skip (i := 8) rfl (by kernel_rfl) rfl (wants_undef rfl rfl rfl) ?_
                              refine tb_skip (i := 9) rfl (by kernel_rfl) rfl (wants_undef rfl rfl rfl) ?_
                              refine tb_skip (i := 10) rfl (by kernel_rfl) rfl (wants_undef rfl rfl rfl) ?_
                              refine tb_skip (i := 11) rfl (by kernel_rfl) rfl (wants_undef rfl rfl rfl) ?_
                              refine tb_skip (i := 12) rfl (by kernel_rfl) rfl (wants_undef rfl rfl rfl) ?_
                              refine tb_skip (i := 13) rfl (by kernel_rfl) rfl (wants_undef rfl rfl rfl) ?_
                              refine tb_skip (i := 14) rfl (by kernel_rfl) rfl (wants_undef rfl rfl rfl) ?_
                              refine tb_skip (i := 15) rfl (by kernel_rfl) rfl (wants_undef rfl rfl rfl) ?_
                              refine tb_skip (i := 16) rfl (by kernel_rfl) rfl (wants_f rfl rfl rfl rfl) ?_
                              refine tb_float (i := 17) rfl (by kernel_rfl) rfl (wants_none rfl) (yq_of (y_pickt (fe_t rfl) fe_c)) ?_
                              refine tb_float (i := 18) rfl (by kernel_rfl) rfl (wants_none rfl) (yq_of (y_move (fe_t rfl))) ?_
                              refine tb_skip (i := 19) rfl (by kernel_rfl) rfl (wants_f rfl rfl rfl rfl) ?_
                              refine tb_skip (i := 20) rfl (by kernel_rfl) rfl (wants_f rfl rfl rfl rfl) ?_
                              refine tb_skip (i := 21) rfl (by kernel_rfl) rfl (wants_f rfl rfl rfl rfl) ?_
                              refine tb_float (i := 22) rfl (by kernel_rfl) rfl (wants_none rfl) (yq_of (y_pickt (fe_t rfl) fe_c)) ?_
                              refine tb_float (i := 23) rfl (by kernel_rfl) rfl (wants_none rfl) (yq_of (y_move (fe_t rfl))) ?_
                              refine tb_skip (i := 24) rfl (by kernel_rfl) rfl (wants_f rfl rfl rfl rfl) ?_
                              refine tb_skip (i := 25) rfl (by kernel_rfl) rfl (wants_f rfl rfl rfl rfl) ?_
                              refine tb_skip (i := 26) rfl (by kernel_rfl) rfl (wants_f rfl rfl rfl rfl) ?_
                              refine tb_float (i := 27) rfl (by kernel_rfl) rfl (wants_none rfl) (yq_of (y_pickt (fe_t rfl) fe_c)) ?_
                              refine tb_float (i := 28) rfl (by kernel_rfl) rfl (wants_none rfl) (yq_of (y_move (fe_t rfl))) ?_
                              refine tb_skip (i := 29) rfl (by kernel_rfl) rfl (wants_f rfl rfl rfl rfl) ?_
                              refine tb_skip (i := 30) rfl (by kernel_rfl) rfl (wants_f rfl rfl rfl rfl) ?_
                              refine tb_skip (i := 31) rfl (by kernel_rfl) rfl (wants_f rfl rfl rfl rfl) ?_
                              refine tb_float (i := 32) rfl (by kernel_rfl) rfl (wants_none rfl) (yq_of (y_pickt (fe_t rfl) fe_c)) ?_
                              refine tb_done (by kernel_rfl) ?_
                              refine tx_then ?_
                              refine tr_condt (fe_t rfl) ?_
                              refine tr_seq ?_
                              refine tr_region ?_
                              refine tl_step rfl (oj_val (y_assign fe_c) ?_)
                              refine tl_step rfl (oj_val (y_assign fe_c) ?_)
                              refine tl_nil ?_
                              refine tx_then ?_
                              refine tr_ret ?_
                              refine tx_in_ret ?_
                              refine tx_then_ret ?_
                              refine tx_then_ret ?_
                              refine tx_in_ret ?_
                              refine tx_then_ret ?_
                              refine tx_ret (res2 Try.results55 (rok_t rfl) (rok_t rfl)) (fun w' hS => ?_)
                              exact ⟨rfl, hS.pick [] _ rfl (by decide)⟩
                          · try (exfalso; omega)
                            all_goals
                              refine tb_float (i := 4) rfl (by kernel_rfl) rfl (wants_t rfl rfl rfl) (yq_of (y_move (fe_t rfl))) ?_
                              refine tb_float (i := 5) rfl (by kernel_rfl) rfl (wants_t rfl rfl rfl) (yq_of (y_gtr (fe_t rfl) fe_c)) ?_
                              refine tb_float (i := 6) rfl (by kernel_rfl) rfl (wants_t rfl rfl rfl) (yq_of (y_move (fe_t rfl))) ?_
                              refine tb_splitp (d := 48) rfl (fun hq15 => ?_) (fun hq16 => ?_)
                              · try (exfalso; omega)
                                all_goals
                                  refine tb_float (i := 7) rfl (by kernel_rfl) rfl (wants_t rfl rfl rfl) (yq_of (y_fieldAddr (td := 3) Try.underlying164 rfl rfl Try.sizeOf3 (o' := 0) rfl (fe_t rfl))) ?_
                                  refine tb_float (i := 8) rfl (by kernel_rfl) rfl (wants_t rfl rfl rfl) (yq_of (y_ldb 0 Try.isAgg3 (fe_t rfl) rfl rfl)) ?_
                                  refine tb_float (i := 9) rfl (by kernel_rfl) rfl (wants_t rfl rfl rfl) (yq_of (y_move (fe_t rfl))) ?_
                                  refine tb_float (i := 10) rfl (by kernel_rfl) rfl (wants_t rfl rfl rfl) (yq_of (y_move (fe_t rfl))) ?_
                                  refine tb_float (i := 11) rfl (by kernel_rfl) rfl (wants_t rfl rfl rfl) (yq_of (y_dec (fe_t rfl) fe_c (by omega))) ?_
                                  refine tb_float (i := 12) rfl (by kernel_rfl) rfl (wants_t rfl rfl rfl) (yq_of (y_index Try.underlying71 Try.sizeOf164 (fe_t rfl) (fe_t rfl) (rdl_out hr) (lenF (fun _ => rfl) hn) (by decide) (by omega) rfl)) ?_
                                  refine tb_float (i := 13) rfl (by kernel_rfl) rfl (wants_t rfl rfl rfl) (yq_of (y_fieldAddrE (td := 3) Try.underlying164 rfl rfl Try.sizeOf3 rfl (fe_t rfl) (rdl_out hr) (by rw [lenF (s := 2) (fun _ => rfl) hn]; omega))) ?_
                                  refine tb_float (i := 14) rfl (by kernel_rfl) rfl (wants_t rfl rfl rfl) (yq_of (y_ld Try.isAgg3 (fe_t rfl) (rdl_out hr) (getF (c := c2) (l := l) (fun _ => rfl) (by omega) 0 _ rfl))) ?_
                                  refine tb_float (i := 15) rfl (by kernel_rfl) rfl (wants_t rfl rfl rfl) (yq_of (y_lss (fe_t rfl) (fe_t rfl))) ?_
                                  refine tb_float (i := 16) rfl (by kernel_rfl) rfl (wants_t rfl rfl rfl) (yq_of (y_pickt (fe_t rfl) (fe_t rfl))) ?_
                                  refine tb_float (i := 17) rfl (by kernel_rfl) rfl (wants_none rfl) (yq_of (y_pickf (fe_t rfl) (fe_t rfl))) ?_
                                  refine tb_float (i := 18) rfl (by kernel_rfl) rfl (wants_none rfl) (yq_of (y_move (fe_t rfl))) ?_
                                  refine tb_splitp (d := 60) rfl (fun hq17 => ?_) (fun hq18 => ?_)
                                  · try (exfalso; omega)
                                    all_goals
                                      refine tb_skip (i := 19) rfl (by kernel_rfl) rfl (wants_f rfl rfl rfl rfl) ?_
                                      refine tb_skip (i := 20) rfl (by kernel_rfl) rfl (wants_f rfl rfl rfl rfl) ?_
                                      refine tb_skip (i := 21) rfl (by kernel_rfl) rfl (wants_f rfl rfl rfl rfl) ?_
                                      refine tb_float (i := 22) rfl (by kernel_rfl) rfl (wants_none rfl) (yq_of (y_pickt (fe_t rfl) fe_c)) ?_
                                      refine tb_float (i := 23) rfl (by kernel_rfl) rfl (wants_none rfl) (yq_of (y_move (fe_t rfl))) ?_
                                      refine tb_skip (i := 24) rfl (by kernel_rfl) rfl (wants_f rfl rfl rfl rfl) ?_
                                      refine tb_skip (i := 25) rfl (by kernel_rfl) rfl (wants_f rfl rfl rfl rfl) ?_
                                      refine tb_skip (i := 26) rfl (by kernel_rfl) rfl (wants_f rfl rfl rfl rfl) ?_
                                      refine tb_float (i := 27) rfl (by kernel_rfl) rfl (wants_none rfl) (yq_of (y_pickt (fe_t rfl) fe_c)) ?_
                                      refine tb_float (i := 28) rfl (by kernel_rfl) rfl (wants_none rfl) (yq_of (y_move (fe_t rfl))) ?_
                                      refine tb_skip (i := 29) rfl (by kernel_rfl) rfl (wants_f rfl rfl rfl rfl) ?_
                                      refine tb_skip (i := 30) rfl (by kernel_rfl) rfl (wants_f rfl rfl rfl rfl) ?_
                                      refine tb_skip (i := 31) rfl (by kernel_rfl) rfl (wants_f rfl rfl rfl rfl) ?_
                                      refine tb_float (i := 32) rfl (by kernel_rfl) rfl (wants_none rfl) (yq_of (y_pickt (fe_t rfl) fe_c)) ?_
                                      refine tb_done (by kernel_rfl) ?_
                                      refine tx_then ?_
                                      refine tr_condt (fe_t rfl) ?_
                                      refine tr_seq ?_
                                      refine tr_region ?_
                                      refine tl_step rfl (oj_val (y_assign fe_c) ?_)
                                      refine tl_step rfl (oj_val (y_assign fe_c) ?_)
                                      refine tl_nil ?_
                                      refine tx_then ?_
                                      refine tr_ret ?_
                                      refine tx_in_ret ?_
                                      refine tx_then_ret ?_
                                      refine tx_then_ret ?_
                                      refine tx_in_ret ?_
                                      refine tx_then_ret ?_
                                      refine tx_ret (res2 Try.results55 (rok_t rfl) (rok_t rfl)) (fun w' hS => ?_)
                                      exact ⟨rfl, hS.pick [] _ rfl (by decide)⟩
                                  · try (exfalso; omega)
                                    all_goals
                                      refine tb_float (i := 19) rfl (by kernel_rfl) rfl (wants_t rfl rfl rfl) (yq_of (y_fieldAddr (td := 3) Try.underlying164 rfl rfl Try.sizeOf3 (o' := 0) rfl (fe_t rfl))) ?_
                                      refine tb_float (i := 20) rfl (by kernel_rfl) rfl (wants_t rfl rfl rfl) (yq_of (y_ldb 0 Try.isAgg3 (fe_t rfl) rfl rfl)) ?_
                                      refine tb_float (i := 21) rfl (by kernel_rfl) rfl (wants_t rfl rfl rfl) (yq_of (y_gtr (fe_t rfl) fe_c)) ?_
                                      refine tb_float (i := 22) rfl (by kernel_rfl) rfl (wants_none rfl) (yq_of (y_pickf (fe_t rfl) (fe_t rfl))) ?_
                                      refine tb_float (i := 23) rfl (by kernel_rfl) rfl (wants_none rfl) (yq_of (y_move (fe_t rfl))) ?_
                                      refine tb_splitp (d := 65) rfl (fun hq19 => ?_) (fun hq20 => ?_)
                                      · try (exfalso; omega)
                                        all_goals
                                          refine tb_skip (i := 24) rfl (by kernel_rfl) rfl (wants_f rfl rfl rfl rfl) ?_
                                          refine tb_skip (i := 25) rfl (by kernel_rfl) rfl (wants_f rfl rfl rfl rfl) ?_
                                          refine tb_skip (i := 26) rfl (by kernel_rfl) rfl (wants_f rfl rfl rfl rfl) ?_
                                          refine tb_float (i := 27) rfl (by kernel_rfl) rfl (wants_none rfl) (yq_of (y_pickt (fe_t rfl) fe_c)) ?_
                                          refine tb_float (i := 28) rfl (by kernel_rfl) rfl (wants_none rfl) (yq_of (y_move (fe_t rfl))) ?_
                                          refine tb_skip (i := 29) rfl (by kernel_rfl) rfl (wants_f rfl rfl rfl rfl) ?_
                                          refine tb_skip (i := 30) rfl (by kernel_rfl) rfl (wants_f rfl rfl rfl rfl) ?_
                                          refine tb_skip (i := 31) rfl (by kernel_rfl) rfl (wants_f rfl rfl rfl rfl) ?_
                                          refine tb_float (i := 32) rfl (by kernel_rfl) rfl (wants_none rfl) (yq_of (y_pickt (fe_t rfl) fe_c)) ?_
                                          refine tb_done (by kernel_rfl) ?_
                                          refine tx_then ?_
                                          refine tr_condt (fe_t rfl) ?_
                                          refine tr_seq ?_
                                          refine tr_region ?_
                                          refine tl_step rfl (oj_val (y_assign fe_c) ?_)
                                          refine tl_step rfl (oj_val (y_assign fe_c) ?_)
                                          refine tl_nil ?_
                                          refine tx_then ?_
                                          refine tr_ret ?_
                                          refine tx_in_ret ?_
                                          refine tx_then_ret ?_
                                          refine tx_then_ret ?_
                                          refine tx_in_ret ?_
                                          refine tx_then_ret ?_
                                          refine tx_ret (res2 Try.results55 (rok_t rfl) (rok_t rfl)) (fun w' hS => ?_)
                                          exact ⟨rfl, hS.pick [] _ rfl (by decide)⟩
                                      · try (exfalso; omega)
                                        all_goals
                                          refine tb_float (i := 24) rfl (by kernel_rfl) rfl (wants_t rfl rfl rfl) (yq_of (y_fieldAddr (td := 3) Try.underlying164 rfl rfl Try.sizeOf3 (o' := 1) rfl (fe_t rfl))) ?_
                                          refine tb_float (i := 25) rfl (by kernel_rfl) rfl (wants_t rfl rfl rfl) (yq_of (y_ldb 0 Try.isAgg3 (fe_t rfl) rfl rfl)) ?_
                                          refine tb_float (i := 26) rfl (by kernel_rfl) rfl (wants_t rfl rfl rfl) (yq_of (y_lss (fe_t rfl) fe_c)) ?_
                                          refine tb_float (i := 27) rfl (by kernel_rfl) rfl (wants_none rfl) (yq_of (y_pickf (fe_t rfl) (fe_t rfl))) ?_
                                          refine tb_float (i := 28) rfl (by kernel_rfl) rfl (wants_none rfl) (yq_of (y_move (fe_t rfl))) ?_
                                          refine tb_splitp (d := 70) rfl (fun hq21 => ?_) (fun hq22 => ?_)
                                          · try (exfalso; omega)
                                            all_goals
                                              refine tb_skip (i := 29) rfl (by kernel_rfl) rfl (wants_f rfl rfl rfl rfl) ?_
                                              refine tb_skip (i := 30) rfl (by kernel_rfl) rfl (wants_f rfl rfl rfl rfl) ?_
                                              refine tb_skip (i := 31) rfl (by kernel_rfl) rfl (wants_f rfl rfl rfl rfl) ?_
                                              refine tb_float (i := 32) rfl (by kernel_rfl) rfl (wants_none rfl) (yq_of (y_pickt (fe_t rfl) fe_c)) ?_
                                              refine tb_done (by kernel_rfl) ?_
                                              refine tx_then ?_
                                              refine tr_condt (fe_t rfl) ?_
                                              refine tr_seq ?_
                                              refine tr_region ?_
                                              refine tl_step rfl (oj_val (y_assign fe_c) ?_)
                                              refine tl_step rfl (oj_val (y_assign fe_c) ?_)
                                              refine tl_nil ?_
                                              refine tx_then ?_
                                              refine tr_ret ?_
                                              refine tx_in_ret ?_
                                              refine tx_then_ret ?_
                                              refine tx_then_ret ?_
                                              refine tx_in_ret ?_
                                              refine tx_then_ret ?_
                                              refine tx_ret (res2 Try.results55 (rok_t rfl) (rok_t rfl)) (fun w' hS => ?_)
                                              exact ⟨rfl, hS.pick [] _ rfl (by decide)⟩
                                          · try (exfalso; omega)
                                            all_goals
                                              refine tb_float (i := 29) rfl (by kernel_rfl) rfl (wants_t rfl rfl rfl) (yq_of (y_fieldAddr (td := 3) Try.underlying164 rfl rfl Try.sizeOf3 (o' := 1) rfl (fe_t rfl))) ?_
                                              refine tb_float (i := 30) rfl (by kernel_rfl) rfl (wants_t rfl rfl rfl) (yq_of (y_ldb 0 Try.isAgg3 (fe_t rfl) rfl rfl)) ?_
                                              refine tb_float (i := 31) rfl (by kernel_rfl) rfl (wants_t rfl rfl rfl) (yq_of (y_gtr (fe_t rfl) fe_c)) ?_
                                              refine tb_float (i := 32) rfl (by kernel_rfl) rfl (wants_none rfl) (yq_of (y_pickf (fe_t rfl) (fe_t rfl))) ?_
                                              refine tb_done (by kernel_rfl) ?_
                                              refine tx_then ?_
                                              refine tr_condp (fe_t rfl) (fun hq23 => ?_) (fun hq24 => ?_)
                                              · try (exfalso; omega)
                                                all_goals
                                                  refine tr_seq ?_
                                                  refine tr_region ?_
                                                  refine tl_step rfl (oj_val (y_assign fe_c) ?_)
                                                  refine tl_step rfl (oj_val (y_assign fe_c) ?_)
                                                  refine tl_nil ?_
                                                  refine tx_then ?_
                                                  refine tr_ret ?_
                                                  refine tx_in_ret ?_
                                                  refine tx_then_ret ?_
                                                  refine tx_then_ret ?_
                                                  refine tx_in_ret ?_
                                                  refine tx_then_ret ?_
                                                  refine tx_ret (res2 Try.results55 (rok_t rfl) (rok_t rfl)) (fun w' hS => ?_)
                                                  exact ⟨rfl, hS.pick [] _ rfl (by decide)⟩
                                              · try (exfalso; omega)
                                                all_goals
                                                  have hfk : Fine l k := ⟨by omega, fun h => by omega, fun h => by omega, by omega, by omega, by omega⟩
                                                  refine tr_skip ?_
                                                  refine tx_in ?_
                                                  refine tx_then ?_
                                                  refine tr_region ?_
                                                  refine tl_step rfl (oj_val (y_inc (fe_t rfl) fe_c (by omega)) ?_)
                                                  refine tl_step rfl (oj_val (y_move (fe_t rfl)) ?_)
                                                  refine tl_nil ?_
                                                  apply tx_back1 (k + 1)
                                                  · exact (cov_cons (by first | rfl | exact v_int (by omega) | exact v_bool (by simp [*])) (cov_nil))
                                                  · repeat (first | exact over_nil | refine over_put rfl ?_ | refine over_drop rfl ?_)
                                                  · exact fun w h => h.pick [] _ rfl (by decide)
                                                  · refine ⟨⟨by omega, fun j hj => ?_⟩, by omega⟩
                                                    by_cases hjk : j < k
                                                    · exact hfi j hjk
                                                    · obtain rfl : j = k := by omega
                                                      exact hfk
                              · try (exfalso; omega)
                                all_goals
                                  refine tb_skip (i := 7) rfl (by kernel_rfl) rfl (wants_f rfl rfl rfl rfl) ?_
                                  refine tb_skip (i := 8) rfl (by kernel_rfl) rfl (wants_f rfl rfl rfl rfl) ?_
                                  refine tb_skip (i := 9) rfl (by kernel_rfl) rfl (wants_f rfl rfl rfl rfl) ?_
                                  refine tb_skip (i := 10) rfl (by kernel_rfl) rfl (wants_f rfl rfl rfl rfl) ?_
                                  refine tb_skip (i := 11) rfl (by kernel_rfl) rfl (wants_f rfl rfl rfl rfl) ?_
                                  refine tb_skip (i := 12) rfl (by kernel_rfl) rfl (wants_f rfl rfl rfl rfl) ?_
                                  refine tb_skip (i := 13) rfl (by kernel_rfl) rfl (wants_f rfl rfl rfl rfl) ?_
                                  refine tb_skip (i := 14) rfl (by kernel_rfl) rfl (wants_f rfl rfl rfl rfl) ?_
                                  refine tb_skip (i := 15) rfl (by kernel_rfl) rfl (wants_f rfl rfl rfl rfl) ?_
                                  refine tb_float (i := 16) rfl (by kernel_rfl) rfl (wants_t rfl rfl rfl) (yq_of (y_pickf (fe_t rfl) fe_c)) ?_
                                  refine tb_float (i := 17) rfl (by kernel_rfl) rfl (wants_none rfl) (yq_of (y_pickf (fe_t rfl) (fe_t rfl))) ?_
                                  refine tb_float (i := 18) rfl (by kernel_rfl) rfl (wants_none rfl) (yq_of (y_move (fe_t rfl))) ?_
                                  refine tb_float (i := 19) rfl (by kernel_rfl) rfl (wants_t rfl rfl rfl) (yq_of (y_fieldAddr (td := 3) Try.underlying164 rfl rfl Try.sizeOf3 (o' := 0) rfl (fe_t rfl))) ?_
                                  refine tb_float (i := 20) rfl (by kernel_rfl) rfl (wants_t rfl rfl rfl) (yq_of (y_ldb 0 Try.isAgg3 (fe_t rfl) rfl rfl)) ?_
                                  refine tb_float (i := 21) rfl (by kernel_rfl) rfl (wants_t rfl rfl rfl) (yq_of (y_gtr (fe_t rfl) fe_c)) ?_
                                  refine tb_float (i := 22) rfl (by kernel_rfl) rfl (wants_none rfl) (yq_of (y_pickf (fe_t rfl) (fe_t rfl))) ?_
                                  refine tb_float (i := 23) rfl (by kernel_rfl) rfl (wants_none rfl) (yq_of (y_move (fe_t rfl))) ?_
                                  refine tb_splitp (d := 65) rfl (fun hq25 => ?_) (fun hq26 => ?_)
                                  · try (exfalso; omega)
                                    all_goals
                                      refine tb_skip (i := 24) rfl (by kernel_rfl) rfl (wants_f rfl rfl rfl rfl) ?_
                                      refine tb_skip (i := 25) rfl (by kernel_rfl) rfl (wants_f rfl rfl rfl rfl) ?_
                                      refine tb_skip (i := 26) rfl (by kernel_rfl) rfl (wants_f rfl rfl rfl rfl) ?_
                                      refine tb_float (i := 27) rfl (by kernel_rfl) rfl (wants_none rfl) (yq_of (y_pickt (fe_t rfl) fe_c)) ?_
                                      refine tb_float (i := 28) rfl (by kernel_rfl) rfl (wants_none rfl) (yq_of (y_move (fe_t rfl))) ?_
                                      refine tb_skip (i := 29) rfl (by kernel_rfl) rfl (wants_f rfl rfl rfl rfl) ?_
                                      refine tb_skip (i := 30) rfl (by kernel_rfl) rfl (wants_f rfl rfl rfl rfl) ?_
                                      refine tb_skip (i := 31) rfl (by kernel_rfl) rfl (wants_f rfl rfl rfl rfl) ?_
                                      refine tb_float (i := 32) rfl (by kernel_rfl) rfl (wants_none rfl) (yq_of (y_pickt (fe_t rfl) fe_c)) ?_
                                      refine tb_done (by kernel_rfl) ?_
                                      refine tx_then ?_
                                      refine tr_condt (fe_t rfl) ?_
                                      refine tr_seq ?_
                                      refine tr_region ?_
                                      refine tl_step rfl (oj_val (y_assign fe_c) ?_)
                                      refine tl_step rfl (oj_val (y_assign fe_c) ?_)
                                      refine tl_nil ?_
                                      refine tx_then ?_
                                      refine tr_ret ?_
                                      refine tx_in_ret ?_
                                      refine tx_then_ret ?_
                                      refine tx_then_ret ?_
                                      refine tx_in_ret ?_
                                      refine tx_then_ret ?_
                                      refine tx_ret (res2 Try.results55 (rok_t rfl) (rok_t rfl)) (fun w' hS => ?_)
                                      exact ⟨rfl, hS.pick [] _ rfl (by decide)⟩
                                  · try (exfalso; omega)
                                    all_goals
                                      refine tb_float (i := 24) rfl (by kernel_rfl) rfl (wants_t rfl rfl rfl) (yq_of (y_fieldAddr (td := 3) Try.underlying164 rfl rfl Try.sizeOf3 (o' := 1) rfl (fe_t rfl))) ?_
                                      refine tb_float (i := 25) rfl (by kernel_rfl) rfl (wants_t rfl rfl rfl) (yq_of (y_ldb 0 Try.isAgg3 (fe_t rfl) rfl rfl)) ?_
                                      refine tb_float (i := 26) rfl (by kernel_rfl) rfl (wants_t rfl rfl rfl) (yq_of (y_lss (fe_t rfl) fe_c)) ?_
                                      refine tb_float (i := 27) rfl (by kernel_rfl) rfl (wants_none rfl) (yq_of (y_pickf (fe_t rfl) (fe_t rfl))) ?_
                                      refine tb_float (i := 28) rfl (by kernel_rfl) rfl (wants_none rfl) (yq_of (y_move (fe_t rfl))) ?_
                                      refine tb_splitp (d := 70) rfl (fun hq27 => ?_) (fun hq28 => ?_)
                                      · try (exfalso; omega)
                                        all_goals
                                          refine tb_skip (i := 29) rfl (by kernel_rfl) rfl (wants_f rfl rfl rfl rfl) ?_
                                          refine tb_skip (i := 30) rfl (by kernel_rfl) rfl (wants_f rfl rfl rfl rfl) ?_
                                          refine tb_skip (i := 31) rfl (by kernel_rfl) rfl (wants_f rfl rfl rfl rfl) ?_
                                          refine tb_float (i := 32) rfl (by kernel_rfl) rfl (wants_none rfl) (yq_of (y_pickt (fe_t rfl) fe_c)) ?_
                                          refine tb_done (by kernel_rfl) ?_
                                          refine tx_then ?_
                                          refine tr_condt (fe_t rfl) ?_
                                          refine tr_seq ?_
                                          refine tr_region ?_
                                          refine tl_step rfl (oj_val (y_assign fe_c) ?_)
                                          refine tl_step rfl (oj_val (y_assign fe_c) ?_)
                                          refine tl_nil ?_
                                          refine tx_then ?_
                                          refine tr_ret ?_
                                          refine tx_in_ret ?_
                                          refine tx_then_ret ?_
                                          refine tx_then_ret ?_
                                          refine tx_in_ret ?_
                                          refine tx_then_ret ?_
                                          refine tx_ret (res2 Try.results55 (rok_t rfl) (rok_t rfl)) (fun w' hS => ?_)
                                          exact ⟨rfl, hS.pick [] _ rfl (by decide)⟩
                                      · try (exfalso; omega)
                                        all_goals
                                          refine tb_float (i := 29) rfl (by kernel_rfl) rfl (wants_t rfl rfl rfl) (yq_of (y_fieldAddr (td := 3) Try.underlying164 rfl rfl Try.sizeOf3 (o' := 1) rfl (fe_t rfl))) ?_
                                          refine tb_float (i := 30) rfl (by kernel_rfl) rfl (wants_t rfl rfl rfl) (yq_of (y_ldb 0 Try.isAgg3 (fe_t rfl) rfl rfl)) ?_
                                          refine tb_float (i := 31) rfl (by kernel_rfl) rfl (wants_t rfl rfl rfl) (yq_of (y_gtr (fe_t rfl) fe_c)) ?_
                                          refine tb_float (i := 32) rfl (by kernel_rfl) rfl (wants_none rfl) (yq_of (y_pickf (fe_t rfl) (fe_t rfl))) ?_
                                          refine tb_done (by kernel_rfl) ?_
                                          refine tx_then ?_
                                          refine tr_condp (fe_t rfl) (fun hq29 => ?_) (fun hq30 => ?_)
                                          · try (exfalso; omega)
                                            all_goals
                                              refine tr_seq ?_
                                              refine tr_region ?_
                                              refine tl_step rfl (oj_val (y_assign fe_c) ?_)
                                              refine tl_step rfl (oj_val (y_assign fe_c) ?_)
                                              refine tl_nil ?_
                                              refine tx_then ?_
                                              refine tr_ret ?_
                                              refine tx_in_ret ?_
                                              refine tx_then_ret ?_
                                              refine tx_then_ret ?_
                                              refine tx_in_ret ?_
                                              refine tx_then_ret ?_
                                              refine tx_ret (res2 Try.results55 (rok_t rfl) (rok_t rfl)) (fun w' hS => ?_)
                                              exact ⟨rfl, hS.pick [] _ rfl (by decide)⟩
                                          · try (exfalso; omega)
                                            all_goals
                                              have hfk : Fine l k := ⟨by omega, fun h => by omega, fun h => by omega, by omega, by omega, by omega⟩
                                              refine tr_skip ?_
                                              refine tx_in ?_
                                              refine tx_then ?_
                                              refine tr_region ?_
                                              refine tl_step rfl (oj_val (y_inc (fe_t rfl) fe_c (by omega)) ?_)
                                              refine tl_step rfl (oj_val (y_move (fe_t rfl)) ?_)
                                              refine tl_nil ?_
                                              apply tx_back1 (k + 1)
                                              · exact (cov_cons (by first | rfl | exact v_int (by omega) | exact v_bool (by simp [*])) (cov_nil))
                                              · repeat (first | exact over_nil | refine over_put rfl ?_ | refine over_drop rfl ?_)
                                              · exact fun w h => h.pick [] _ rfl (by decide)
                                              · refine ⟨⟨by omega, fun j hj => ?_⟩, by omega⟩
                                                by_cases hjk : j < k
                                                · exact hfi j hjk
                                                · obtain rfl : j = k := by omega
                                                  exact hfk
                      · exfalso; obtain ⟨j, hj, hnf⟩ := hb; exact hnf (hfi j (by omega))

end Go.Proofs.Ytcpdelkamckmfaa.Red
