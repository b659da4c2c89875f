/- TPlay, case C. -/
import Derived.Test.YtcpdelkamckmfaaRedT
namespace Go.Proofs.Ytcpdelkamckmfaa.Red
open Go.RowKit Go.Proofs.Ytcpdelkamckmfaa.E Go.Proofs.Ytcpdelkamckmfaa.Big Go.Proofs.Ytcpdelkamckmfaa.Frac

set_option maxRecDepth 100000 in
set_option maxHeartbeats 4000000 in
theorem tplay_C (tg iv : Int) (A : Option Addr) (n c : Nat) (l : List (Int × Int)) (w : World) (hr : Rd w A (l.flatMap c2)) (hn : l.length = n) (hg : 0 ≤ tg ∧ tg ≤ 1048576 ∧ 1 ≤ iv ∧ iv ≤ 1048576 ∧ n ≤ 400) (hf : ∀ k, k < n → Fine l k) :
    Calls Try.prog 55 #[(.int .i64 tg), (.int .i64 iv), .slice A n c] w fun e w' => ∃ q : Vs, n ≤ q.c ∧ e = .returned (.tuple #[.slice q.A n q.c, (.int .i64 0)]) ∧ St w w' [vec 4 1 (.slice q.A n q.c) n (bools (run tg iv l).2)] := by
  obtain ⟨h1, h2, h3, h4, h5⟩ := hg
  refine calls_tr Try.func55 Try.ntmps55 rfl rfl (St.refl _) ?_
  refine tr_seq ?_
  refine tr_region ?_
  refine tl_step rfl (oj_val (y_assign fe_c) ?_)
  refine tl_step rfl (oj_val (y_assign fe_c) ?_)
  refine tl_nil ?_
  refine tx_then ?_
  refine tr_seq ?_
  refine tr_seq ?_
  refine tr_region ?_
  refine tl_step rfl (oj_val (y_move (fe_t rfl)) ?_)
  refine tl_step rfl (oj_val (y_lss (fe_t rfl) fe_c) ?_)
  refine tl_step rfl (oj_val (y_move (fe_t rfl)) ?_)
  refine tl_splitp (d := 18) rfl (fun hq1 => ?_) (fun hq2 => ?_)
  · try (exfalso; omega)
    all_goals
      refine tl_skip rfl rfl rfl rfl ?_
      refine tl_skip rfl rfl rfl rfl ?_
      refine tl_step rfl (oj_val (y_pickt (fe_t rfl) fe_c) ?_)
      refine tl_step rfl (oj_val (y_move (fe_t rfl)) ?_)
      refine tl_skip rfl rfl rfl rfl ?_
      refine tl_skip rfl rfl rfl rfl ?_
      refine tl_step rfl (oj_val (y_pickt (fe_t rfl) fe_c) ?_)
      refine tl_step rfl (oj_val (y_move (fe_t rfl)) ?_)
      refine tl_skip rfl rfl rfl rfl ?_
      refine tl_skip rfl rfl rfl rfl ?_
      refine tl_step rfl (oj_val (y_pickt (fe_t rfl) fe_c) ?_)
      refine tl_step rfl (oj_val (y_move (fe_t rfl)) ?_)
      refine tl_skip rfl rfl rfl rfl ?_
      refine tl_skip rfl rfl rfl rfl ?_
      refine tl_skip rfl rfl rfl rfl ?_
      refine tl_step rfl (oj_val (y_pickt (fe_t rfl) fe_c) ?_)
      refine tl_nil ?_
      refine tx_then ?_
      exfalso; omega
  · try (exfalso; omega)
    all_goals
      refine tl_want rfl rfl rfl (oj_val (y_move (fe_t rfl)) ?_)
      refine tl_want rfl rfl rfl (oj_val (y_gtr (fe_t rfl) fe_c) ?_)
      refine tl_step rfl (oj_val (y_pickf (fe_t rfl) (fe_t rfl)) ?_)
      refine tl_step rfl (oj_val (y_move (fe_t rfl)) ?_)
      refine tl_splitp (d := 22) rfl (fun hq3 => ?_) (fun hq4 => ?_)
      · try (exfalso; omega)
        all_goals
          refine tl_skip rfl rfl rfl rfl ?_
          refine tl_skip rfl rfl rfl rfl ?_
          refine tl_step rfl (oj_val (y_pickt (fe_t rfl) fe_c) ?_)
          refine tl_step rfl (oj_val (y_move (fe_t rfl)) ?_)
          refine tl_skip rfl rfl rfl rfl ?_
          refine tl_skip rfl rfl rfl rfl ?_
          refine tl_step rfl (oj_val (y_pickt (fe_t rfl) fe_c) ?_)
          refine tl_step rfl (oj_val (y_move (fe_t rfl)) ?_)
          refine tl_skip rfl rfl rfl rfl ?_
          refine tl_skip rfl rfl rfl rfl ?_
          refine tl_skip rfl rfl rfl rfl ?_
          refine tl_step rfl (oj_val (y_pickt (fe_t rfl) fe_c) ?_)
          refine tl_nil ?_
          refine tx_then ?_
          exfalso; omega
      · try (exfalso; omega)
        all_goals
          refine tl_want rfl rfl rfl (oj_val (y_move (fe_t rfl)) ?_)
          refine tl_want rfl rfl rfl (oj_val (y_lss (fe_t rfl) fe_c) ?_)
          refine tl_step rfl (oj_val (y_pickf (fe_t rfl) (fe_t rfl)) ?_)
          refine tl_step rfl (oj_val (y_move (fe_t rfl)) ?_)
          refine tl_splitp (d := 26) rfl (fun hq5 => ?_) (fun hq6 => ?_)
          · try (exfalso; omega)
            all_goals
              refine tl_skip rfl rfl rfl rfl ?_
              refine tl_skip rfl rfl rfl rfl ?_
              refine tl_step rfl (oj_val (y_pickt (fe_t rfl) fe_c) ?_)
              refine tl_step rfl (oj_val (y_move (fe_t rfl)) ?_)
              refine tl_skip rfl rfl rfl rfl ?_
              refine tl_skip rfl rfl rfl rfl ?_
              refine tl_skip rfl rfl rfl rfl ?_
              refine tl_step rfl (oj_val (y_pickt (fe_t rfl) fe_c) ?_)
              refine tl_nil ?_
              refine tx_then ?_
              exfalso; omega
          · try (exfalso; omega)
            all_goals
              refine tl_want rfl rfl rfl (oj_val (y_move (fe_t rfl)) ?_)
              refine tl_want rfl rfl rfl (oj_val (y_gtr (fe_t rfl) fe_c) ?_)
              refine tl_step rfl (oj_val (y_pickf (fe_t rfl) (fe_t rfl)) ?_)
              refine tl_step rfl (oj_val (y_move (fe_t rfl)) ?_)
              refine tl_splitp (d := 30) rfl (fun hq7 => ?_) (fun hq8 => ?_)
              · try (exfalso; omega)
                all_goals
                  refine tl_skip rfl rfl rfl rfl ?_
                  refine tl_skip rfl rfl rfl rfl ?_
                  refine tl_skip rfl rfl rfl rfl ?_
                  refine tl_step rfl (oj_val (y_pickt (fe_t rfl) fe_c) ?_)
                  refine tl_nil ?_
                  refine tx_then ?_
                  exfalso; omega
              · try (exfalso; omega)
                all_goals
                  refine tl_want rfl rfl rfl (oj_val (y_move (fe_t rfl)) ?_)
                  refine tl_want rfl rfl rfl (oj_val (y_len Try.underlying71 (fe_t rfl)) ?_)
                  refine tl_want rfl rfl rfl (oj_val (y_gtr (fe_t rfl) fe_c) ?_)
                  refine tl_step rfl (oj_val (y_pickf (fe_t rfl) (fe_t rfl)) ?_)
                  refine tl_nil ?_
                  refine tx_then ?_
                  refine tr_condp (fe_t rfl) (fun hq9 => ?_) (fun hq10 => ?_)
                  · exfalso; omega
                  · try (exfalso; omega)
                    all_goals
                      refine tr_skip ?_
                      refine tx_then ?_
                      refine tr_seq ?_
                      refine tr_seq ?_
                      refine tr_region ?_
                      refine tl_step rfl (oj_val (y_move (fe_t rfl)) ?_)
                      refine tl_step rfl (oj_val (y_len Try.underlying71 (fe_t rfl)) ?_)
                      refine tl_step rfl (oj_val (y_move fe_c) ?_)
                      refine tl_nil ?_
                      refine tx_then ?_
                      refine tr_block ?_
                      refine tr_loop1 [6, 7, 8, 9, 37, 38, 39, 40, 41, 42, 43, 44, 45, 46, 47, 48, 49, 50, 51, 52, 53, 54, 55, 56, 57, 58, 59, 60, 61, 62, 63, 64, 65, 66, 67, 68, 69, 70, 71, 72, 73, 74, 75] (fun (k : Nat) => [(37, .int .i64 (k : Int))]) 0 (fun (k : Nat) => []) (fun (k : Nat) => k ≤ n ∧ ∀ j, j < k → Fine l j) (fun (k : Nat) => n - k) (0) (cov_cons (by first | rfl | exact v_int (by omega) | exact v_bool (by simp [*])) (cov_nil)) (fun w h => h) ?_ ?_
                      · try dsimp only
                        exact ⟨by omega, fun j h => by omega⟩
                      intro k hp
                      obtain ⟨hk, hfi⟩ := hp
                      refine tr_seq ?_
                      refine tr_region ?_
                      refine tl_step rfl (oj_val (y_lss (fe_t rfl) (fe_t rfl)) ?_)
                      refine tl_nil ?_
                      refine tx_then ?_
                      refine tr_seq ?_
                      refine tr_condp (fe_t rfl) (fun hq11 => ?_) (fun hq12 => ?_)
                      · try (exfalso; omega)
                        all_goals
                          refine tr_skip ?_
                          refine tx_then ?_
                          refine tr_seq ?_
                          refine tr_block ?_
                          refine tr_seq ?_
                          refine tr_region ?_
                          refine tl_step rfl (oj_val (y_move (fe_t rfl)) ?_)
                          refine tl_step rfl (oj_val (y_index Try.underlying71 Try.sizeOf164 (fe_t rfl) (fe_t rfl) (rdl_out hr) (lenF (fun _ => rfl) hn) (by decide) (by omega) rfl) ?_)
                          refine tl_step rfl (oj_val (y_ldA Try.isAgg164 Try.sizeOf164 (fe_t rfl) (rdl_out hr) rfl (by decide) (getF (c := c2) (l := l) (fun _ => rfl) (by omega))) ?_)
                          refine tl_step rfl (oj_alloc Try.zeroValue164 (fun xb => ?_))
                          refine tl_step rfl (oj_val (y_assign (fe_t rfl)) ?_)
                          refine tl_step rfl (oj_storeW 0 Try.sizeOf164 (fe_t rfl) (fe_t rfl) rfl rfl rfl rfl rfl (?_))
                          refine tl_nil ?_
                          refine tx_then ?_
                          refine tr_seq ?_
                          refine tb_draw 33 (sel _ [0]) (fun w h => h.sel _ rfl (by decide)) rfl ?_
                          refine tb_float (i := 0) rfl (by kernel_rfl) rfl (wants_none rfl) (yq_of (y_fieldAddr (td := 3) Try.underlying164 rfl rfl Try.sizeOf3 (o' := 0) rfl (fe_t rfl))) ?_
                          refine tb_float (i := 1) rfl (by kernel_rfl) rfl (wants_none rfl) (yq_of (y_ldb 0 Try.isAgg3 (fe_t rfl) rfl rfl)) ?_
                          refine tb_float (i := 2) rfl (by kernel_rfl) rfl (wants_none rfl) (yq_of (y_lss (fe_t rfl) fe_c)) ?_
                          refine tb_float (i := 3) rfl (by kernel_rfl) rfl (wants_none rfl) (yq_of (y_move (fe_t rfl))) ?_
                          refine tb_splitp (d := 45) rfl (fun hq13 => ?_) (fun hq14 => ?_)
                          · try (exfalso; omega)
                            all_goals
                              refine tb_skip (i := 4) rfl (by kernel_rfl) rfl (wants_f rfl rfl rfl rfl) ?_
                              refine tb_skip (i := 5) rfl (by kernel_rfl) rfl (wants_f rfl rfl rfl rfl) ?_
                              refine tb_skip (i := 6) rfl (by kernel_rfl) rfl (wants_f rfl rfl rfl rfl) ?_
                              refine tb_skip (i := 7) rfl (by kernel_rfl) rfl (wants_undef rfl rfl rfl) ?_
                              refine tb_skip (i := 8) rfl (by kernel_rfl) rfl (wants_undef rfl rfl rfl) ?_
                              refine tb_skip (i := 9) rfl (by kernel_rfl) rfl (wants_undef rfl rfl rfl) ?_
                              refine tb_skip (i := 10) rfl (by kernel_rfl) rfl (wants_undef rfl rfl rfl) ?_
                              refine tb_skip (i := 11) rfl (by kernel_rfl) rfl (wants_undef rfl rfl rfl) ?_
                              refine tb_skip (i := 12) rfl (by kernel_rfl) rfl (wants_undef rfl rfl rfl) ?_
                              refine tb_skip (i := 13) rfl (by kernel_rfl) rfl (wants_undef rfl rfl rfl) ?_
                              refine tb_skip (i := 14) rfl (by kernel_rfl) rfl (wants_undef rfl rfl rfl) ?_
                              refine tb_skip (i := 15) rfl (by kernel_rfl) rfl (wants_undef rfl rfl rfl) ?_
                              refine tb_skip (i := 16) rfl (by kernel_rfl) rfl (wants_f rfl rfl rfl rfl) ?_
                              refine tb_float (i := 17) rfl (by kernel_rfl) rfl (wants_none rfl) (yq_of (y_pickt (fe_t rfl) fe_c)) ?_
                              refine tb_float (i := 18) rfl (by kernel_rfl) rfl (wants_none rfl) (yq_of (y_move (fe_t rfl))) ?_
                              refine tb_skip (i := 19) rfl (by kernel_rfl) rfl (wants_f rfl rfl rfl rfl) ?_
                              refine tb_skip (i := 20) rfl (by kernel_rfl) rfl (wants_f rfl rfl rfl rfl) ?_
                              refine tb_skip (i := 21) rfl (by kernel_rfl) rfl (wants_f rfl rfl rfl rfl) ?_
                              refine tb_float (i := 22) rfl (by kernel_rfl) rfl (wants_none rfl) (yq_of (y_pickt (fe_t rfl) fe_c)) ?_
                              refine tb_float (i := 23) rfl (by kernel_rfl) rfl (wants_none rfl) (yq_of (y_move (fe_t rfl))) ?_
                              refine tb_skip (i := 24) rfl (by kernel_rfl) rfl (wants_f rfl rfl rfl rfl) ?_
                              refine tb_skip (i := 25) rfl (by kernel_rfl) rfl (wants_f rfl rfl rfl rfl) ?_
                              refine tb_skip (i := 26) rfl (by kernel_rfl) rfl (wants_f rfl rfl rfl rfl) ?_
                              refine tb_float (i := 27) rfl (by kernel_rfl) rfl (wants_none rfl) (yq_of (y_pickt (fe_t rfl) fe_c)) ?_
                              refine tb_float (i := 28) rfl (by kernel_rfl) rfl (wants_none rfl) (yq_of (y_move (fe_t rfl))) ?_
                              refine tb_skip (i := 29) rfl (by kernel_rfl) rfl (wants_f rfl rfl rfl rfl) ?_
                              refine tb_skip (i := 30) rfl (by kernel_rfl) rfl (wants_f rfl rfl rfl rfl) ?_
                              refine tb_skip (i := 31) rfl (by kernel_rfl) rfl (wants_f rfl rfl rfl rfl) ?_
                              refine tb_float (i := 32) rfl (by kernel_rfl) rfl (wants_none rfl) (yq_of (y_pickt (fe_t rfl) fe_c)) ?_
                              refine tb_done (by kernel_rfl) ?_
                              refine tx_then ?_
                              exfalso; have hpp := fine_pos (fun j hj => hf j (by omega)) (show k < l.length by omega); obtain ⟨_, g1, g2, g3, g4, g5⟩ := hf k (by omega); rcases Nat.eq_zero_or_pos k with h | h <;> first | (have := g1 h; omega) | (have := g2 h; omega)
                          · try (exfalso; omega)
                            all_goals
                              refine tb_float (i := 4) rfl (by kernel_rfl) rfl (wants_t rfl rfl rfl) (yq_of (y_move (fe_t rfl))) ?_
                              refine tb_float (i := 5) rfl (by kernel_rfl) rfl (wants_t rfl rfl rfl) (yq_of (y_gtr (fe_t rfl) fe_c)) ?_
                              refine tb_float (i := 6) rfl (by kernel_rfl) rfl (wants_t rfl rfl rfl) (yq_of (y_move (fe_t rfl))) ?_
                              refine tb_splitp (d := 48) rfl (fun hq15 => ?_) (fun hq16 => ?_)
                              · try (exfalso; omega)
                                all_goals
                                  refine tb_float (i := 7) rfl (by kernel_rfl) rfl (wants_t rfl rfl rfl) (yq_of (y_fieldAddr (td := 3) Try.underlying164 rfl rfl Try.sizeOf3 (o' := 0) rfl (fe_t rfl))) ?_
                                  refine tb_float (i := 8) rfl (by kernel_rfl) rfl (wants_t rfl rfl rfl) (yq_of (y_ldb 0 Try.isAgg3 (fe_t rfl) rfl rfl)) ?_
                                  refine tb_float (i := 9) rfl (by kernel_rfl) rfl (wants_t rfl rfl rfl) (yq_of (y_move (fe_t rfl))) ?_
                                  refine tb_float (i := 10) rfl (by kernel_rfl) rfl (wants_t rfl rfl rfl) (yq_of (y_move (fe_t rfl))) ?_
                                  refine tb_float (i := 11) rfl (by kernel_rfl) rfl (wants_t rfl rfl rfl) (yq_of (y_dec (fe_t rfl) fe_c (by omega))) ?_
                                  refine tb_float (i := 12) rfl (by kernel_rfl) rfl (wants_t rfl rfl rfl) (yq_of (y_index Try.underlying71 Try.sizeOf164 (fe_t rfl) (fe_t rfl) (rdl_out hr) (lenF (fun _ => rfl) hn) (by decide) (by omega) rfl)) ?_
                                  refine tb_float (i := 13) rfl (by kernel_rfl) rfl (wants_t rfl rfl rfl) (yq_of (y_fieldAddrE (td := 3) Try.underlying164 rfl rfl Try.sizeOf3 rfl (fe_t rfl) (rdl_out hr) (by rw [lenF (s := 2) (fun _ => rfl) hn]; omega))) ?_
                                  refine tb_float (i := 14) rfl (by kernel_rfl) rfl (wants_t rfl rfl rfl) (yq_of (y_ld Try.isAgg3 (fe_t rfl) (rdl_out hr) (getF (c := c2) (l := l) (fun _ => rfl) (by omega) 0 _ rfl))) ?_
                                  refine tb_float (i := 15) rfl (by kernel_rfl) rfl (wants_t rfl rfl rfl) (yq_of (y_lss (fe_t rfl) (fe_t rfl))) ?_
                                  refine tb_float (i := 16) rfl (by kernel_rfl) rfl (wants_t rfl rfl rfl) (yq_of (y_pickt (fe_t rfl) (fe_t rfl))) ?_
                                  refine tb_float (i := 17) rfl (by kernel_rfl) rfl (wants_none rfl) (yq_of (y_pickf (fe_t rfl) (fe_t rfl))) ?_
                                  refine tb_float (i := 18) rfl (by kernel_rfl) rfl (wants_none rfl) (yq_of (y_move (fe_t rfl))) ?_
                                  refine tb_splitp (d := 60) rfl (fun hq17 => ?_) (fun hq18 => ?_)
                                  · try (exfalso; omega)
                                    all_goals
                                      refine tb_skip (i := 19) rfl (by kernel_rfl) rfl (wants_f rfl rfl rfl rfl) ?_
                                      refine tb_skip (i := 20) rfl (by kernel_rfl) rfl (wants_f rfl rfl rfl rfl) ?_
                                      refine tb_skip (i := 21) rfl (by kernel_rfl) rfl (wants_f rfl rfl rfl rfl) ?_
                                      refine tb_float (i := 22) rfl (by kernel_rfl) rfl (wants_none rfl) (yq_of (y_pickt (fe_t rfl) fe_c)) ?_
                                      refine tb_float (i := 23) rfl (by kernel_rfl) rfl (wants_none rfl) (yq_of (y_move (fe_t rfl))) ?_
                                      refine tb_skip (i := 24) rfl (by kernel_rfl) rfl (wants_f rfl rfl rfl rfl) ?_
                                      refine tb_skip (i := 25) rfl (by kernel_rfl) rfl (wants_f rfl rfl rfl rfl) ?_
                                      refine tb_skip (i := 26) rfl (by kernel_rfl) rfl (wants_f rfl rfl rfl rfl) ?_
                                      refine tb_float (i := 27) rfl (by kernel_rfl) rfl (wants_none rfl) (yq_of (y_pickt (fe_t rfl) fe_c)) ?_
                                      refine tb_float (i := 28) rfl (by kernel_rfl) rfl (wants_none rfl) (yq_of (y_move (fe_t rfl))) ?_
                                      refine tb_skip (i := 29) rfl (by kernel_rfl) rfl (wants_f rfl rfl rfl rfl) ?_
                                      refine tb_skip (i := 30) rfl (by kernel_rfl) rfl (wants_f rfl rfl rfl rfl) ?_
                                      refine tb_skip (i := 31) rfl (by kernel_rfl) rfl (wants_f rfl rfl rfl rfl) ?_
                                      refine tb_float (i := 32) rfl (by kernel_rfl) rfl (wants_none rfl) (yq_of (y_pickt (fe_t rfl) fe_c)) ?_
                                      refine tb_done (by kernel_rfl) ?_
                                      refine tx_then ?_
                                      exfalso; have hpp := fine_pos (fun j hj => hf j (by omega)) (show k < l.length by omega); obtain ⟨_, g1, g2, g3, g4, g5⟩ := hf k (by omega); rcases Nat.eq_zero_or_pos k with h | h <;> first | (have := g1 h; omega) | (have := g2 h; omega)
                                  · try (exfalso; omega)
                                    all_goals
                                      refine tb_float (i := 19) rfl (by kernel_rfl) rfl (wants_t rfl rfl rfl) (yq_of (y_fieldAddr (td := 3) Try.underlying164 rfl rfl Try.sizeOf3 (o' := 0) rfl (fe_t rfl))) ?_
                                      refine tb_float (i := 20) rfl (by kernel_rfl) rfl (wants_t rfl rfl rfl) (yq_of (y_ldb 0 Try.isAgg3 (fe_t rfl) rfl rfl)) ?_
                                      refine tb_float (i := 21) rfl (by kernel_rfl) rfl (wants_t rfl rfl rfl) (yq_of (y_gtr (fe_t rfl) fe_c)) ?_
                                      refine tb_float (i := 22) rfl (by kernel_rfl) rfl (wants_none rfl) (yq_of (y_pickf (fe_t rfl) (fe_t rfl))) ?_
                                      refine tb_float (i := 23) rfl (by kernel_rfl) rfl (wants_none rfl) (yq_of (y_move (fe_t rfl))) ?_
                                      refine tb_splitp (d := 65) rfl (fun hq19 => ?_) (fun hq20 => ?_)
                                      · try (exfalso; omega)
                                        all_goals
                                          refine tb_skip (i := 24) rfl (by kernel_rfl) rfl (wants_f rfl rfl rfl rfl) ?_
                                          refine tb_skip (i := 25) rfl (by kernel_rfl) rfl (wants_f rfl rfl rfl rfl) ?_
                                          refine tb_skip (i := 26) rfl (by kernel_rfl) rfl (wants_f rfl rfl rfl rfl) ?_
                                          refine tb_float (i := 27) rfl (by kernel_rfl) rfl (wants_none rfl) (yq_of (y_pickt (fe_t rfl) fe_c)) ?_
                                          refine tb_float (i := 28) rfl (by kernel_rfl) rfl (wants_none rfl) (yq_of (y_move (fe_t rfl))) ?_
                                          refine tb_skip (i := 29) rfl (by kernel_rfl) rfl (wants_f rfl rfl rfl rfl) ?_
                                          refine tb_skip (i := 30) rfl (by kernel_rfl) rfl (wants_f rfl rfl rfl rfl) ?_
                                          refine tb_skip (i := 31) rfl (by kernel_rfl) rfl (wants_f rfl rfl rfl rfl) ?_
                                          refine tb_float (i := 32) rfl (by kernel_rfl) rfl (wants_none rfl) (yq_of (y_pickt (fe_t rfl) fe_c)) ?_
                                          refine tb_done (by kernel_rfl) ?_
                                          refine tx_then ?_
                                          exfalso; have hpp := fine_pos (fun j hj => hf j (by omega)) (show k < l.length by omega); obtain ⟨_, g1, g2, g3, g4, g5⟩ := hf k (by omega); rcases Nat.eq_zero_or_pos k with h | h <;> first | (have := g1 h; omega) | (have := g2 h; omega)
                                      · try (exfalso; omega)
                                        all_goals
                                          refine tb_float (i := 24) rfl (by kernel_rfl) rfl (wants_t rfl rfl rfl) (yq_of (y_fieldAddr (td := 3) Try.underlying164 rfl rfl Try.sizeOf3 (o' := 1) rfl (fe_t rfl))) ?_
                                          refine tb_float (i := 25) rfl (by kernel_rfl) rfl (wants_t rfl rfl rfl) (yq_of (y_ldb 0 Try.isAgg3 (fe_t rfl) rfl rfl)) ?_
                                          refine tb_float (i := 26) rfl (by kernel_rfl) rfl (wants_t rfl rfl rfl) (yq_of (y_lss (fe_t rfl) fe_c)) ?_
                                          refine tb_float (i := 27) rfl (by kernel_rfl) rfl (wants_none rfl) (yq_of (y_pickf (fe_t rfl) (fe_t rfl))) ?_
                                          refine tb_float (i := 28) rfl (by kernel_rfl) rfl (wants_none rfl) (yq_of (y_move (fe_t rfl))) ?_
                                          refine tb_splitp (d := 70) rfl (fun hq21 => ?_) (fun hq22 => ?_)
                                          · try (exfalso; omega)
                                            all_goals
                                              refine tb_skip (i := 29) rfl (by kernel_rfl) rfl (wants_f rfl rfl rfl rfl) ?_
                                              refine tb_skip (i := 30) rfl (by kernel_rfl) rfl (wants_f rfl rfl rfl rfl) ?_
                                              refine tb_skip (i := 31) rfl (by kernel_rfl) rfl (wants_f rfl rfl rfl rfl) ?_
                                              refine tb_float (i := 32) rfl (by kernel_rfl) rfl (wants_none rfl) (yq_of (y_pickt (fe_t rfl) fe_c)) ?_
                                              refine tb_done (by kernel_rfl) ?_
                                              refine tx_then ?_
                                              exfalso; have hpp := fine_pos (fun j hj => hf j (by omega)) (show k < l.length by omega); obtain ⟨_, g1, g2, g3, g4, g5⟩ := hf k (by omega); rcases Nat.eq_zero_or_pos k with h | h <;> first | (have := g1 h; omega) | (have := g2 h; omega)
                                          · try (exfalso; omega)
                                            all_goals
                                              refine tb_float (i := 29) rfl (by kernel_rfl) rfl (wants_t rfl rfl rfl) (yq_of (y_fieldAddr (td := 3) Try.underlying164 rfl rfl Try.sizeOf3 (o' := 1) rfl (fe_t rfl))) ?_
                                              refine tb_float (i := 30) rfl (by kernel_rfl) rfl (wants_t rfl rfl rfl) (yq_of (y_ldb 0 Try.isAgg3 (fe_t rfl) rfl rfl)) ?_
                                              refine tb_float (i := 31) rfl (by kernel_rfl) rfl (wants_t rfl rfl rfl) (yq_of (y_gtr (fe_t rfl) fe_c)) ?_
                                              refine tb_float (i := 32) rfl (by kernel_rfl) rfl (wants_none rfl) (yq_of (y_pickf (fe_t rfl) (fe_t rfl))) ?_
                                              refine tb_done (by kernel_rfl) ?_
                                              refine tx_then ?_
                                              refine tr_condp (fe_t rfl) (fun hq23 => ?_) (fun hq24 => ?_)
                                              · exfalso; have hpp := fine_pos (fun j hj => hf j (by omega)) (show k < l.length by omega); obtain ⟨_, g1, g2, g3, g4, g5⟩ := hf k (by omega); rcases Nat.eq_zero_or_pos k with h | h <;> first | (have := g1 h; omega) | (have := g2 h; omega)
                                              · try (exfalso; omega)
                                                all_goals
                                                  have hfk : Fine l k := ⟨by omega, fun h => by omega, fun h => by omega, by omega, by omega, by omega⟩
                                                  refine tr_skip ?_
                                                  refine tx_in ?_
                                                  refine tx_then ?_
                                                  refine tr_region ?_
                                                  refine tl_step rfl (oj_val (y_inc (fe_t rfl) fe_c (by omega)) ?_)
                                                  refine tl_step rfl (oj_val (y_move (fe_t rfl)) ?_)
                                                  refine tl_nil ?_
                                                  apply tx_back1 (k + 1)
                                                  · exact (cov_cons (by first | rfl | exact v_int (by omega) | exact v_bool (by simp [*])) (cov_nil))
                                                  · repeat (first | exact over_nil | refine over_put rfl ?_ | refine over_drop rfl ?_)
                                                  · exact fun w h => h.pick [] _ rfl (by decide)
                                                  · refine ⟨⟨by omega, fun j hj => ?_⟩, by omega⟩
                                                    by_cases hjk : j < k
                                                    · exact hfi j hjk
                                                    · obtain rfl : j = k := by omega
                                                      exact hfk
                              · try (exfalso; omega)
                                all_goals
                                  refine tb_skip (i := 7) rfl (by kernel_rfl) rfl (wants_f rfl rfl rfl rfl) ?_
                                  refine tb_skip (i := 8) rfl (by kernel_rfl) rfl (wants_f rfl rfl rfl rfl) ?_
                                  refine tb_skip (i := 9) rfl (by kernel_rfl) rfl (wants_f rfl rfl rfl rfl) ?_
                                  refine tb_skip (i := 10) rfl (by kernel_rfl) rfl (wants_f rfl rfl rfl rfl) ?_
                                  refine tb_skip (i := 11) rfl (by kernel_rfl) rfl (wants_f rfl rfl rfl rfl) ?_
                                  refine tb_skip (i := 12) rfl (by kernel_rfl) rfl (wants_f rfl rfl rfl rfl) ?_
                                  refine tb_skip (i := 13) rfl (by kernel_rfl) rfl (wants_f rfl rfl rfl rfl) ?_
                                  refine tb_skip (i := 14) rfl (by kernel_rfl) rfl (wants_f rfl rfl rfl rfl) ?_
                                  refine tb_skip (i := 15) rfl (by kernel_rfl) rfl (wants_f rfl rfl rfl rfl) ?_
                                  refine tb_float (i := 16) rfl (by kernel_rfl) rfl (wants_t rfl rfl rfl) (yq_of (y_pickf (fe_t rfl) fe_c)) ?_
                                  refine tb_float (i := 17) rfl (by kernel_rfl) rfl (wants_none rfl) (yq_of (y_pickf (fe_t rfl) (fe_t rfl))) ?_
                                  refine tb_float (i := 18) rfl (by kernel_rfl) rfl (wants_none rfl) (yq_of (y_move (fe_t rfl))) ?_
                                  refine tb_float (i := 19) rfl (by kernel_rfl) rfl (wants_t rfl rfl rfl) (yq_of (y_fieldAddr (td := 3) Try.underlying164 rfl rfl Try.sizeOf3 (o' := 0) rfl (fe_t rfl))) ?_
                                  refine tb_float (i := 20) rfl (by kernel_rfl) rfl (wants_t rfl rfl rfl) (yq_of (y_ldb 0 Try.isAgg3 (fe_t rfl) rfl rfl)) ?_
                                  refine tb_float (i := 21) rfl (by kernel_rfl) rfl (wants_t rfl rfl rfl) (yq_of (y_gtr (fe_t rfl) fe_c)) ?_
                                  refine tb_float (i := 22) rfl (by kernel_rfl) rfl (wants_none rfl) (yq_of (y_pickf (fe_t rfl) (fe_t rfl))) ?_
                                  refine tb_float (i := 23) rfl (by kernel_rfl) rfl (wants_none rfl) (yq_of (y_move (fe_t rfl))) ?_
                                  refine tb_splitp (d := 65) rfl (fun hq25 => ?_) (fun hq26 => ?_)
                                  · try (exfalso; omega)
                                    all_goals
                                      refine tb_skip (i := 24) rfl (by kernel_rfl) rfl (wants_f rfl rfl rfl rfl) ?_
                                      refine tb_skip (i := 25) rfl (by kernel_rfl) rfl (wants_f rfl rfl rfl rfl) ?_
                                      refine tb_skip (i := 26) rfl (by kernel_rfl) rfl (wants_f rfl rfl rfl rfl) ?_
                                      refine tb_float (i := 27) rfl (by kernel_rfl) rfl (wants_none rfl) (yq_of (y_pickt (fe_t rfl) fe_c)) ?_
                                      refine tb_float (i := 28) rfl (by kernel_rfl) rfl (wants_none rfl) (yq_of (y_move (fe_t rfl))) ?_
                                      refine tb_skip (i := 29) rfl (by kernel_rfl) rfl (wants_f rfl rfl rfl rfl) ?_
                                      refine tb_skip (i := 30) rfl (by kernel_rfl) rfl (wants_f rfl rfl rfl rfl) ?_
                                      refine tb_skip (i := 31) rfl (by kernel_rfl) rfl (wants_f rfl rfl rfl rfl) ?_
                                      refine tb_float (i := 32) rfl (by kernel_rfl) rfl (wants_none rfl) (yq_of (y_pickt (fe_t rfl) fe_c)) ?_
                                      refine tb_done (by kernel_rfl) ?_
                                      refine tx_then ?_
                                      exfalso; have hpp := fine_pos (fun j hj => hf j (by omega)) (show k < l.length by omega); obtain ⟨_, g1, g2, g3, g4, g5⟩ := hf k (by omega); rcases Nat.eq_zero_or_pos k with h | h <;> first | (have := g1 h; omega) | (have := g2 h; omega)
                                  · try (exfalso; omega)
                                    all_goals
                                      refine tb_float (i := 24) rfl (by kernel_rfl) rfl (wants_t rfl rfl rfl) (yq_of (y_fieldAddr (td := 3) Try.underlying164 rfl rfl Try.sizeOf3 (o' := 1) rfl (fe_t rfl))) ?_
                                      refine tb_float (i := 25) rfl (by kernel_rfl) rfl (wants_t rfl rfl rfl) (yq_of (y_ldb 0 Try.isAgg3 (fe_t rfl) rfl rfl)) ?_
                                      refine tb_float (i := 26) rfl (by kernel_rfl) rfl (wants_t rfl rfl rfl) (yq_of (y_lss (fe_t rfl) fe_c)) ?_
                                      refine tb_float (i := 27) rfl (by kernel_rfl) rfl (wants_none rfl) (yq_of (y_pickf (fe_t rfl) (fe_t rfl))) ?_
                                      refine tb_float (i := 28) rfl (by kernel_rfl) rfl (wants_none rfl) (yq_of (y_move (fe_t rfl))) ?_
                                      refine tb_splitp (d := 70) rfl (fun hq27 => ?_) (fun hq28 => ?_)
                                      · try (exfalso; omega)
                                        all_goals
                                          refine tb_skip (i := 29) rfl (by kernel_rfl) rfl (wants_f rfl rfl rfl rfl) ?_
                                          refine tb_skip (i := 30) rfl (by kernel_rfl) rfl (wants_f rfl rfl rfl rfl) ?_
                                          refine tb_skip (i := 31) rfl (by kernel_rfl) rfl (wants_f rfl rfl rfl rfl) ?_
                                          refine tb_float (i := 32) rfl (by kernel_rfl) rfl (wants_none rfl) (yq_of (y_pickt (fe_t rfl) fe_c)) ?_
                                          refine tb_done (by kernel_rfl) ?_
                                          refine tx_then ?_
                                          exfalso; have hpp := fine_pos (fun j hj => hf j (by omega)) (show k < l.length by omega); obtain ⟨_, g1, g2, g3, g4, g5⟩ := hf k (by omega); rcases Nat.eq_zero_or_pos k with h | h <;> first | (have := g1 h; omega) | (have := g2 h; omega)
                                      · try (exfalso; omega)
                                        all_goals
                                          refine tb_float (i := 29) rfl (by kernel_rfl) rfl (wants_t rfl rfl rfl) (yq_of (y_fieldAddr (td := 3) Try.underlying164 rfl rfl Try.sizeOf3 (o' := 1) rfl (fe_t rfl))) ?_
                                          refine tb_float (i := 30) rfl (by kernel_rfl) rfl (wants_t rfl rfl rfl) (yq_of (y_ldb 0 Try.isAgg3 (fe_t rfl) rfl rfl)) ?_
                                          refine tb_float (i := 31) rfl (by kernel_rfl) rfl (wants_t rfl rfl rfl) (yq_of (y_gtr (fe_t rfl) fe_c)) ?_
                                          refine tb_float (i := 32) rfl (by kernel_rfl) rfl (wants_none rfl) (yq_of (y_pickf (fe_t rfl) (fe_t rfl))) ?_
                                          refine tb_done (by kernel_rfl) ?_
                                          refine tx_then ?_
                                          refine tr_condp (fe_t rfl) (fun hq29 => ?_) (fun hq30 => ?_)
                                          · exfalso; have hpp := fine_pos (fun j hj => hf j (by omega)) (show k < l.length by omega); obtain ⟨_, g1, g2, g3, g4, g5⟩ := hf k (by omega); rcases Nat.eq_zero_or_pos k with h | h <;> first | (have := g1 h; omega) | (have := g2 h; omega)
                                          · try (exfalso; omega)
                                            all_goals
                                              have hfk : Fine l k := ⟨by omega, fun h => by omega, fun h => by omega, by omega, by omega, by omega⟩
                                              refine tr_skip ?_
                                              refine tx_in ?_
                                              refine tx_then ?_
                                              refine tr_region ?_
                                              refine tl_step rfl (oj_val (y_inc (fe_t rfl) fe_c (by omega)) ?_)
                                              refine tl_step rfl (oj_val (y_move (fe_t rfl)) ?_)
                                              refine tl_nil ?_
                                              apply tx_back1 (k + 1)
                                              · exact (cov_cons (by first | rfl | exact v_int (by omega) | exact v_bool (by simp [*])) (cov_nil))
                                              · repeat (first | exact over_nil | refine over_put rfl ?_ | refine over_drop rfl ?_)
                                              · exact fun w h => h.pick [] _ rfl (by decide)
                                              · refine ⟨⟨by omega, fun j hj => ?_⟩, by omega⟩
                                                by_cases hjk : j < k
                                                · exact hfi j hjk
                                                · obtain rfl : j = k := by omega
                                                  exact hfk
                      · try (exfalso; omega)
                        all_goals
                          refine tr_exit ?_
                          refine tx_then_exit ?_
                          refine tx_then_exit ?_
                          refine tx_in_exit ?_
                          refine tx_then ?_
                          refine tr_seq ?_
                          refine tr_region ?_
                          refine tl_step rfl (oj_val (y_move (fe_t rfl)) ?_)
                          refine tl_step rfl (oj_val (y_len Try.underlying71 (fe_t rfl)) ?_)
                          refine tl_step rfl (oj_make (n := n) (z := (.bool false)) (bytes := 1) Try.underlying73 (by kernel_rfl) (fe_t rfl) (fe_t rfl) rfl ⟨by omega, by decide⟩ (fun g => ?_))
                          refine tl_step rfl (oj_val (y_assign (fe_t rfl)) ?_)
                          refine tl_nil ?_
                          refine tx_then ?_
                          refine tr_seq ?_
                          refine tr_seq ?_
                          refine tr_region ?_
                          refine tl_step rfl (oj_val (y_assign fe_c) ?_)
                          refine tl_nil ?_
                          refine tx_then ?_
                          refine tr_block ?_
                          refine tr_loop2 [11, 12, 13, 14, 15, 79, 80, 81, 82, 83, 84, 85, 86, 87, 88, 89, 90, 91, 92, 93, 94, 95, 96, 97, 98, 99, 100, 101, 102, 103, 104, 105, 106, 107, 108, 109, 110, 111, 112, 113, 114, 115, 116, 117, 118, 119, 120, 121, 122, 123, 124, 125, 126, 127, 128, 129, 130, 131, 132, 133, 134, 135, 136, 137, 138, 139, 140, 141, 142, 143, 144, 145, 146] (fun (f : Nat) (vx : List Value) => [(11, .int .i64 (f : Int))]) 0 (fun (f : Nat) (vx : List Value) => [(0, vec 4 1 (.slice (some ⟨g, 0, none⟩) n n) n vx)]) (fun (f : Nat) (vx : List Value) => f ≤ n ∧ vx = outs tg iv l n f ∧ (∀ h : f < l.length, l[f].2 < tg ∨ (run tg iv (l.take f)).1 = fresh)) (fun (f : Nat) (vx : List Value) => n - f) (0) (List.replicate n (.bool false)) (cov_cons (by first | rfl | exact v_int (by omega) | exact v_bool (by simp [*])) (cov_nil)) (fun w h => h) ?_ ?_
                          · try dsimp only
                            exact ⟨by omega, outs_zero.symm, fun h => .inr (by simp [run])⟩
                          intro f vx hp
                          obtain ⟨hfn, hvx, hfr⟩ := hp
                          refine tr_seq ?_
                          refine tr_seq ?_
                          refine tr_region ?_
                          refine tl_step rfl (oj_val (y_move (fe_t rfl)) ?_)
                          refine tl_step rfl (oj_val (y_move (fe_t rfl)) ?_)
                          refine tl_step rfl (oj_val (y_len Try.underlying71 (fe_t rfl)) ?_)
                          refine tl_step rfl (oj_val (y_lss (fe_t rfl) (fe_t rfl)) ?_)
                          refine tl_nil ?_
                          refine tx_then ?_
                          refine tr_condp (fe_t rfl) (fun hq31 => ?_) (fun hq32 => ?_)
                          · try (exfalso; omega)
                            all_goals
                              refine tr_skip ?_
                              refine tx_then ?_
                              refine tr_block ?_
                              refine tr_seq ?_
                              refine tr_seq ?_
                              refine tr_region ?_
                              refine tl_step rfl (oj_val (y_move (fe_t rfl)) ?_)
                              refine tl_step rfl (oj_val (y_move (fe_t rfl)) ?_)
                              refine tl_step rfl (oj_val (y_index Try.underlying71 Try.sizeOf164 (fe_t rfl) (fe_t rfl) (rdl_out hr) (lenF (fun _ => rfl) hn) (by decide) (by omega) rfl) ?_)
                              refine tl_step rfl (oj_val (y_fieldAddrE (td := 3) Try.underlying164 rfl rfl Try.sizeOf3 rfl (fe_t rfl) (rdl_out hr) (by rw [lenF (s := 2) (fun _ => rfl) hn]; omega)) ?_)
                              refine tl_step rfl (oj_val (y_ld Try.isAgg3 (fe_t rfl) (rdl_out hr) (getF (c := c2) (l := l) (fun _ => rfl) (by omega) 1 _ rfl)) ?_)
                              refine tl_step rfl (oj_val (y_move (fe_t rfl)) ?_)
                              refine tl_step rfl (oj_val (y_lss (fe_t rfl) (fe_t rfl)) ?_)
                              refine tl_nil ?_
                              refine tx_then ?_
                              refine tr_condp (fe_t rfl) (fun hq33 => ?_) (fun hq34 => ?_)
                              · try (exfalso; omega)
                                all_goals
                                  refine tr_seq ?_
                                  refine tr_region ?_
                                  refine tl_step rfl (oj_val (y_move (fe_t rfl)) ?_)
                                  refine tl_step rfl (oj_val (y_inc (fe_t rfl) fe_c (by omega)) ?_)
                                  refine tl_step rfl (oj_val (y_assign (fe_t rfl)) ?_)
                                  refine tl_nil ?_
                                  refine tx_then ?_
                                  refine tr_exit ?_
                                  refine tx_then_exit ?_
                                  refine tx_in_exit ?_
                                  apply tx_back2 (f + 1) (vx)
                                  · exact (cov_cons (by first | rfl | exact v_int (by omega) | exact v_bool (by simp [*])) (cov_nil))
                                  · repeat (first | exact over_nil | refine over_put rfl ?_ | refine over_drop rfl ?_)
                                  · exact fun w h => h.pick [0] _ rfl (by decide)
                                  · obtain ⟨hs1, hs2⟩ := stp_low (iv := iv) (l := l) (k := f) (by omega) (by assumption)
                                    exact ⟨⟨by omega, by rw [hvx, outs_false hn (by omega) hs1], fun _ => .inr hs2⟩, by omega⟩
                              · try (exfalso; omega)
                                all_goals
                                  refine tr_skip ?_
                                  refine tx_then ?_
                                  refine tr_seq ?_
                                  refine tr_region ?_
                                  refine tl_step rfl (oj_val (y_move (fe_t rfl)) ?_)
                                  refine tl_step rfl (oj_val (y_assign (fe_t rfl)) ?_)
                                  refine tl_nil ?_
                                  refine tx_then ?_
                                  refine tr_seq ?_
                                  refine tr_block ?_
                                  refine tr_loop1 [12, 93, 94, 95, 96, 97, 98, 99, 100, 101, 102, 103, 104, 105, 106, 107] (fun (t : Nat) => [(12, .int .i64 (t : Int))]) 0 (fun (t : Nat) => []) (fun (t : Nat) => f ≤ t ∧ t ≤ n ∧ ∀ j, f ≤ j → j < t → ∀ h : j < l.length, tg ≤ l[j].2) (fun (t : Nat) => n - t) (f) (cov_cons (by first | rfl | exact v_int (by omega) | exact v_bool (by simp [*])) (cov_nil)) (fun w h => h) ?_ ?_
                                  · try dsimp only
                                    exact ⟨by omega, by omega, fun j h1 h2 => by omega⟩
                                  intro t hp
                                  obtain ⟨ht0, ht1, hw⟩ := hp
                                  refine tr_seq ?_
                                  refine tr_seq ?_
                                  refine tr_region ?_
                                  refine tl_step rfl (oj_val (y_move (fe_t rfl)) ?_)
                                  refine tl_step rfl (oj_val (y_move (fe_t rfl)) ?_)
                                  refine tl_step rfl (oj_val (y_len Try.underlying71 (fe_t rfl)) ?_)
                                  refine tl_step rfl (oj_val (y_lss (fe_t rfl) (fe_t rfl)) ?_)
                                  refine tl_step rfl (oj_val (y_move (fe_t rfl)) ?_)
                                  refine tl_splitp (d := 97) rfl (fun hq35 => ?_) (fun hq36 => ?_)
                                  · try (exfalso; omega)
                                    all_goals
                                      refine tl_want rfl rfl rfl (oj_val (y_move (fe_t rfl)) ?_)
                                      refine tl_want rfl rfl rfl (oj_val (y_move (fe_t rfl)) ?_)
                                      refine tl_want rfl rfl rfl (oj_val (y_index Try.underlying71 Try.sizeOf164 (fe_t rfl) (fe_t rfl) (rdl_out hr) (lenF (fun _ => rfl) hn) (by decide) (by omega) rfl) ?_)
                                      refine tl_want rfl rfl rfl (oj_val (y_fieldAddrE (td := 3) Try.underlying164 rfl rfl Try.sizeOf3 rfl (fe_t rfl) (rdl_out hr) (by rw [lenF (s := 2) (fun _ => rfl) hn]; omega)) ?_)
                                      refine tl_want rfl rfl rfl (oj_val (y_ld Try.isAgg3 (fe_t rfl) (rdl_out hr) (getF (c := c2) (l := l) (fun _ => rfl) (by omega) 1 _ rfl)) ?_)
                                      refine tl_want rfl rfl rfl (oj_val (y_move (fe_t rfl)) ?_)
                                      refine tl_want rfl rfl rfl (oj_val (y_geq (fe_t rfl) (fe_t rfl)) ?_)
                                      refine tl_step rfl (oj_val (y_pickt (fe_t rfl) (fe_t rfl)) ?_)
                                      refine tl_nil ?_
                                      refine tx_then ?_
                                      refine tr_condp (fe_t rfl) (fun hq37 => ?_) (fun hq38 => ?_)
                                      · try (exfalso; omega)
                                        all_goals
                                          refine tr_skip ?_
                                          refine tx_then ?_
                                          refine tr_block ?_
                                          refine tr_region ?_
                                          refine tl_step rfl (oj_val (y_move (fe_t rfl)) ?_)
                                          refine tl_step rfl (oj_val (y_inc (fe_t rfl) fe_c (by omega)) ?_)
                                          refine tl_step rfl (oj_val (y_assign (fe_t rfl)) ?_)
                                          refine tl_nil ?_
                                          refine tx_in ?_
                                          apply tx_back1 (t + 1)
                                          · exact (cov_cons (by first | rfl | exact v_int (by omega) | exact v_bool (by simp [*])) (cov_nil))
                                          · repeat (first | exact over_nil | refine over_put rfl ?_ | refine over_drop rfl ?_)
                                          · exact fun w h => h.pick [0] _ rfl (by decide)
                                          · refine ⟨⟨by omega, by omega, fun j h1 h2 h3 => ?_⟩, by omega⟩
                                            by_cases hjt : j < t
                                            · exact hw j h1 hjt h3
                                            · obtain rfl : j = t := by omega
                                              omega
                                      · try (exfalso; omega)
                                        all_goals
                                          refine tr_exit ?_
                                          refine tx_then_exit ?_
                                          refine tx_then_exit ?_
                                          refine tx_in_exit ?_
                                          refine tx_then ?_
                                          refine tr_seq ?_
                                          have hfl : f < l.length := by omega
                                          have htf : f < t := by
                                            rcases Nat.lt_or_ge f t with h | h
                                            · exact h
                                            · obtain rfl : f = t := by omega
                                              omega
                                          have hend : ∀ h : t < l.length, l[t].2 < tg := fun h => by omega
                                          obtain ⟨hst1, hst2⟩ := seg_start (tg := tg) (iv := iv) hfl (by omega) (by rcases hfr hfl with h | h; omega; exact h)
                                          have ha := fine_pos (fun j hj => hf j (by omega)) hfl
                                          obtain ⟨_, _, _, ha1, _⟩ := hf f (by omega)
                                          refine tb_draw 9 (sel _ [0]) (fun w h => h.sel _ rfl (by decide)) rfl ?_
                                          refine tb_float (i := 0) rfl (by kernel_rfl) rfl (wants_none rfl) (yq_of (y_move (fe_t rfl))) ?_
                                          refine tb_float (i := 1) rfl (by kernel_rfl) rfl (wants_none rfl) (yq_of (y_move (fe_t rfl))) ?_
                                          refine tb_float (i := 2) rfl (by kernel_rfl) rfl (wants_none rfl) (yq_of (y_index Try.underlying71 Try.sizeOf164 (fe_t rfl) (fe_t rfl) (rdl_out hr) (lenF (fun _ => rfl) hn) (by decide) (by omega) rfl)) ?_
                                          refine tb_float (i := 3) rfl (by kernel_rfl) rfl (wants_none rfl) (yq_of (y_fieldAddrE (td := 3) Try.underlying164 rfl rfl Try.sizeOf3 rfl (fe_t rfl) (rdl_out hr) (by rw [lenF (s := 2) (fun _ => rfl) hn]; omega))) ?_
                                          refine tb_float (i := 4) rfl (by kernel_rfl) rfl (wants_none rfl) (yq_of (y_ld Try.isAgg3 (fe_t rfl) (rdl_out hr) (getF (c := c2) (l := l) (fun _ => rfl) (by omega) 0 _ rfl))) ?_
                                          refine tb_float (i := 5) rfl (by kernel_rfl) rfl (wants_none rfl) (yq_of (y_move (fe_t rfl))) ?_
                                          refine tb_float (i := 6) rfl (by kernel_rfl) rfl (wants_none rfl) (yq_of (y_add (fe_t rfl) (fe_t rfl) (by omega))) ?_
                                          refine tb_float (i := 7) rfl (by kernel_rfl) rfl (wants_none rfl) (yq_of (y_assign fe_c)) ?_
                                          refine tb_float (i := 8) rfl (by kernel_rfl) rfl (wants_none rfl) (yq_of (y_assign (fe_t rfl))) ?_
                                          refine tb_done (by kernel_rfl) ?_
                                          refine tx_then ?_
                                          refine tr_seq ?_
                                          refine tr_seq ?_
                                          refine tr_region ?_
                                          refine tl_step rfl (oj_val (y_move (fe_t rfl)) ?_)
                                          refine tl_step rfl (oj_val (y_inc (fe_t rfl) fe_c (by omega)) ?_)
                                          refine tl_step rfl (oj_val (y_assign (fe_t rfl)) ?_)
                                          refine tl_nil ?_
                                          refine tx_then ?_
                                          refine tr_block ?_
                                          refine tr_loop4 [13, 14, 15, 117, 118, 119, 120, 121, 122, 123, 124, 125, 126, 127, 128, 129, 130, 131, 132, 133, 134, 135, 136, 137, 138, 139, 140, 141, 142, 143, 144, 145] (fun (k : Nat) (nn : Nat) (e : Int) (vx2 : List Value) => [(15, .int .i64 (k : Int)), (13, .int .i64 (nn : Int)), (14, .int .i64 e)]) 0 (fun (k : Nat) (nn : Nat) (e : Int) (vx2 : List Value) => [(0, vec 4 1 (.slice (some ⟨g, 0, none⟩) n n) n vx2)]) (fun (k : Nat) (nn : Nat) (e : Int) (vx2 : List Value) => f + 1 ≤ k ∧ k ≤ t ∧ vx2 = outs tg iv l n k ∧ Seg tg iv l (l[f]'hfl).1 k nn e) (fun (k : Nat) (nn : Nat) (e : Int) (vx2 : List Value) => t - k) (f + 1) (0) ((l[f]'hfl).1 + iv) (vx) (cov_cons (by first | rfl | exact v_int (by omega) | exact v_bool (by simp [*])) (cov_cons (by first | rfl | exact v_int (by omega) | exact v_bool (by simp [*])) (cov_cons (by first | rfl | exact v_int (by omega) | exact v_bool (by simp [*])) (cov_nil)))) (fun w h => h) ?_ ?_
                                          · try dsimp only
                                            exact ⟨by omega, by omega, by rw [hvx, outs_false hn (by omega) hst2], hst1⟩
                                          intro k nn e vx2 hp
                                          obtain ⟨hk0, hk1, hvx2, hsg⟩ := hp
                                          have hri := run_inv (tg := tg) (l := l) h3 h4 k (by omega) (fun j hj => hf j (by omega))
                                          refine tr_seq ?_
                                          refine tr_seq ?_
                                          refine tr_region ?_
                                          refine tl_step rfl (oj_val (y_move (fe_t rfl)) ?_)
                                          refine tl_step rfl (oj_val (y_move (fe_t rfl)) ?_)
                                          refine tl_step rfl (oj_val (y_lss (fe_t rfl) (fe_t rfl)) ?_)
                                          refine tl_nil ?_
                                          refine tx_then ?_
                                          refine tr_condp (fe_t rfl) (fun hq39 => ?_) (fun hq40 => ?_)
                                          · try (exfalso; omega)
                                            all_goals
                                              refine tr_skip ?_
                                              refine tx_then ?_
                                              refine tr_seq ?_
                                              refine tr_block ?_
                                              refine tr_seq ?_
                                              refine tr_seq ?_
                                              have hm0 := hri.m
                                              have hn0 := hri.n0
                                              have hn1 := hri.n1
                                              have hse := hsg.m
                                              have hs0 := hsg.e0
                                              have hs1 := hsg.e1
                                              obtain ⟨_, _, _, hak, _⟩ := hf k (by omega)
                                              refine tr_region ?_
                                              refine tl_step rfl (oj_val (y_move (fe_t rfl)) ?_)
                                              refine tl_step rfl (oj_val (y_move (fe_t rfl)) ?_)
                                              refine tl_step rfl (oj_val (y_index Try.underlying71 Try.sizeOf164 (fe_t rfl) (fe_t rfl) (rdl_out hr) (lenF (fun _ => rfl) hn) (by decide) (by omega) rfl) ?_)
                                              refine tl_step rfl (oj_val (y_fieldAddrE (td := 3) Try.underlying164 rfl rfl Try.sizeOf3 rfl (fe_t rfl) (rdl_out hr) (by rw [lenF (s := 2) (fun _ => rfl) hn]; omega)) ?_)
                                              refine tl_step rfl (oj_val (y_ld Try.isAgg3 (fe_t rfl) (rdl_out hr) (getF (c := c2) (l := l) (fun _ => rfl) (by omega) 0 _ rfl)) ?_)
                                              refine tl_step rfl (oj_val (y_move (fe_t rfl)) ?_)
                                              refine tl_step rfl (oj_val (y_lss (fe_t rfl) (fe_t rfl)) ?_)
                                              refine tl_nil ?_
                                              refine tx_then ?_
                                              refine tr_condp (fe_t rfl) (fun hq41 => ?_) (fun hq42 => ?_)
                                              · try (exfalso; omega)
                                                all_goals
                                                  have hlt := hq41
                                                  refine tr_exit ?_
                                                  refine tx_then_exit ?_
                                                  refine tx_in_exit ?_
                                                  refine tx_then ?_
                                                  refine tr_region ?_
                                                  refine tl_step rfl (oj_val (y_move (fe_t rfl)) ?_)
                                                  refine tl_step rfl (oj_val (y_inc (fe_t rfl) fe_c (by omega)) ?_)
                                                  refine tl_step rfl (oj_val (y_assign (fe_t rfl)) ?_)
                                                  refine tl_nil ?_
                                                  apply tx_back4 (k + 1) (nn) (e) (vx2)
                                                  · exact (cov_cons (by first | rfl | exact v_int (by omega) | exact v_bool (by simp [*])) (cov_cons (by first | rfl | exact v_int (by omega) | exact v_bool (by simp [*])) (cov_cons (by first | rfl | exact v_int (by omega) | exact v_bool (by simp [*])) (cov_nil))))
                                                  · repeat (first | exact over_nil | refine over_put rfl ?_ | refine over_drop rfl ?_)
                                                  · exact fun w h => h.pick [0] _ rfl (by decide)
                                                  · obtain ⟨hs1, hs2⟩ := seg_no (by omega) hri ha (hw k (by omega) (by omega) (by omega)) hsg hlt
                                                    exact ⟨⟨by omega, by omega, by rw [hvx2, outs_false hn (by omega) hs2], hs1⟩, by omega⟩
                                              · try (exfalso; omega)
                                                all_goals
                                                  obtain ⟨hs1, hs2⟩ := seg_yes (by omega) hri ha (hw k (by omega) (by omega) (by omega)) hsg (by omega)
                                                  have hgb := gapv_bd h3 h4 (show 1 ≤ nn + 1 by omega)
                                                  refine tr_skip ?_
                                                  refine tx_then ?_
                                                  refine tr_seq ?_
                                                  refine tr_seq ?_
                                                  refine tr_region ?_
                                                  refine tl_step rfl (oj_val (y_move (fe_t rfl)) ?_)
                                                  refine tl_step rfl (oj_val (y_eq (fe_t rfl) fe_c) ?_)
                                                  refine tl_nil ?_
                                                  refine tx_then ?_
                                                  refine tr_condp (fe_t rfl) (fun hq43 => ?_) (fun hq44 => ?_)
                                                  · try (exfalso; omega)
                                                    all_goals
                                                      refine tr_region ?_
                                                      refine tl_step rfl (oj_val (y_move (fe_t rfl)) ?_)
                                                      refine tl_step rfl (oj_val (y_move (fe_t rfl)) ?_)
                                                      refine tl_step rfl (oj_val (y_index Try.underlying71 Try.sizeOf164 (fe_t rfl) (fe_t rfl) (rdl_out hr) (lenF (fun _ => rfl) hn) (by decide) (by omega) rfl) ?_)
                                                      refine tl_step rfl (oj_val (y_fieldAddrE (td := 3) Try.underlying164 rfl rfl Try.sizeOf3 rfl (fe_t rfl) (rdl_out hr) (by rw [lenF (s := 2) (fun _ => rfl) hn]; omega)) ?_)
                                                      refine tl_step rfl (oj_val (y_ld Try.isAgg3 (fe_t rfl) (rdl_out hr) (getF (c := c2) (l := l) (fun _ => rfl) (by omega) 0 _ rfl)) ?_)
                                                      refine tl_step rfl (oj_val (y_assign (fe_t rfl)) ?_)
                                                      refine tl_nil ?_
                                                      refine tx_then ?_
                                                      refine tr_seq ?_
                                                      refine tr_region ?_
                                                      refine tl_step rfl (oj_val (y_move (fe_t rfl)) ?_)
                                                      refine tl_step rfl (oj_val (y_inc (fe_t rfl) fe_c (by omega)) ?_)
                                                      refine tl_step rfl (oj_val (y_assign (fe_t rfl)) ?_)
                                                      refine tl_nil ?_
                                                      refine tx_then ?_
                                                      refine tr_seq ?_
                                                      refine tr_region ?_
                                                      refine tl_step rfl (oj_val (y_move (fe_t rfl)) ?_)
                                                      refine tl_step rfl (oj_val (y_move (fe_t rfl)) ?_)
                                                      refine tl_step rfl (oj_val (y_index Try.underlying73 Try.sizeOf4 (fe_t rfl) (fe_t rfl) (rdl_vec 0 rfl) (by first | (rw [hvx]; exact (outs_len hn (by omega)).trans (Nat.mul_one _).symm) | (rw [hvx2]; exact (outs_len hn (by omega)).trans (Nat.mul_one _).symm)) (by decide) (by omega) (Nat.mul_one _)) ?_)
                                                      refine tl_step rfl (oj_storeE1 (i := 0) Try.sizeOf4 (fe_t rfl) fe_c rfl rfl rfl (by omega) (?_))
                                                      refine tl_nil ?_
                                                      refine tx_then ?_
                                                      refine tr_region ?_
                                                      refine tl_step rfl (oj_val (y_move (fe_t rfl)) ?_)
                                                      refine tl_step rfl (oj_val (y_move (fe_t rfl)) ?_)
                                                      refine tl_step rfl (oj_val (y_move (fe_t rfl)) ?_)
                                                      refine tl_step rfl (oj_callv Try.call57 fe_f (fel_cons (fe_t rfl) (fel_cons (fe_t rfl) fel_nil)) (fun w' hS => tgapE (n := nn + 1) h3 h4 (by omega) (by omega) w') ?_)
                                                      refine tl_step rfl (oj_val (y_as (b := (if nn = 0 then l[k].1 else e) + gapv iv (nn + 1)) (y_add (fe_t rfl) (fe_t rfl) (by first | omega | (split <;> omega))) (by first | rw [if_pos (by omega)] | rw [if_neg (by omega)])) ?_)
                                                      refine tl_step rfl (oj_val (y_assign (fe_t rfl)) ?_)
                                                      refine tl_nil ?_
                                                      refine tx_in ?_
                                                      refine tx_then ?_
                                                      refine tr_region ?_
                                                      refine tl_step rfl (oj_val (y_move (fe_t rfl)) ?_)
                                                      refine tl_step rfl (oj_val (y_inc (fe_t rfl) fe_c (by omega)) ?_)
                                                      refine tl_step rfl (oj_val (y_assign (fe_t rfl)) ?_)
                                                      refine tl_nil ?_
                                                      apply tx_back4 (k + 1) (nn + 1) ((if nn = 0 then l[k].1 else e) + gapv iv (nn + 1)) (_)
                                                      · exact (cov_cons (by first | rfl | exact v_int (by omega) | exact v_bool (by simp [*])) (cov_cons (by first | rfl | exact v_int (by omega) | exact v_bool (by simp [*])) (cov_cons (by first | rfl | exact v_int (by omega) | exact v_bool (by simp [*])) (cov_nil))))
                                                      · repeat (first | exact over_nil | refine over_put rfl ?_ | refine over_drop rfl ?_)
                                                      · exact fun w h => h.pick [0] _ rfl (by decide)
                                                      · exact ⟨⟨by omega, by omega, by rw [hvx2, outs_true hn (by omega) hs2], hs1⟩, by omega⟩
                                                  · try (exfalso; omega)
                                                    all_goals
                                                      refine tr_skip ?_
                                                      refine tx_then ?_
                                                      refine tr_seq ?_
                                                      refine tr_region ?_
                                                      refine tl_step rfl (oj_val (y_move (fe_t rfl)) ?_)
                                                      refine tl_step rfl (oj_val (y_inc (fe_t rfl) fe_c (by omega)) ?_)
                                                      refine tl_step rfl (oj_val (y_assign (fe_t rfl)) ?_)
                                                      refine tl_nil ?_
                                                      refine tx_then ?_
                                                      refine tr_seq ?_
                                                      refine tr_region ?_
                                                      refine tl_step rfl (oj_val (y_move (fe_t rfl)) ?_)
                                                      refine tl_step rfl (oj_val (y_move (fe_t rfl)) ?_)
                                                      refine tl_step rfl (oj_val (y_index Try.underlying73 Try.sizeOf4 (fe_t rfl) (fe_t rfl) (rdl_vec 0 rfl) (by first | (rw [hvx]; exact (outs_len hn (by omega)).trans (Nat.mul_one _).symm) | (rw [hvx2]; exact (outs_len hn (by omega)).trans (Nat.mul_one _).symm)) (by decide) (by omega) (Nat.mul_one _)) ?_)
                                                      refine tl_step rfl (oj_storeE1 (i := 0) Try.sizeOf4 (fe_t rfl) fe_c rfl rfl rfl (by omega) (?_))
                                                      refine tl_nil ?_
                                                      refine tx_then ?_
                                                      refine tr_region ?_
                                                      refine tl_step rfl (oj_val (y_move (fe_t rfl)) ?_)
                                                      refine tl_step rfl (oj_val (y_move (fe_t rfl)) ?_)
                                                      refine tl_step rfl (oj_val (y_move (fe_t rfl)) ?_)
                                                      refine tl_step rfl (oj_callv Try.call57 fe_f (fel_cons (fe_t rfl) (fel_cons (fe_t rfl) fel_nil)) (fun w' hS => tgapE (n := nn + 1) h3 h4 (by omega) (by omega) w') ?_)
                                                      refine tl_step rfl (oj_val (y_as (b := (if nn = 0 then l[k].1 else e) + gapv iv (nn + 1)) (y_add (fe_t rfl) (fe_t rfl) (by first | omega | (split <;> omega))) (by first | rw [if_pos (by omega)] | rw [if_neg (by omega)])) ?_)
                                                      refine tl_step rfl (oj_val (y_assign (fe_t rfl)) ?_)
                                                      refine tl_nil ?_
                                                      refine tx_in ?_
                                                      refine tx_then ?_
                                                      refine tr_region ?_
                                                      refine tl_step rfl (oj_val (y_move (fe_t rfl)) ?_)
                                                      refine tl_step rfl (oj_val (y_inc (fe_t rfl) fe_c (by omega)) ?_)
                                                      refine tl_step rfl (oj_val (y_assign (fe_t rfl)) ?_)
                                                      refine tl_nil ?_
                                                      apply tx_back4 (k + 1) (nn + 1) ((if nn = 0 then l[k].1 else e) + gapv iv (nn + 1)) (_)
                                                      · exact (cov_cons (by first | rfl | exact v_int (by omega) | exact v_bool (by simp [*])) (cov_cons (by first | rfl | exact v_int (by omega) | exact v_bool (by simp [*])) (cov_cons (by first | rfl | exact v_int (by omega) | exact v_bool (by simp [*])) (cov_nil))))
                                                      · repeat (first | exact over_nil | refine over_put rfl ?_ | refine over_drop rfl ?_)
                                                      · exact fun w h => h.pick [0] _ rfl (by decide)
                                                      · exact ⟨⟨by omega, by omega, by rw [hvx2, outs_true hn (by omega) hs2], hs1⟩, by omega⟩
                                          · try (exfalso; omega)
                                            all_goals
                                              refine tr_exit ?_
                                              refine tx_then_exit ?_
                                              refine tx_then_exit ?_
                                              refine tx_in_exit ?_
                                              refine tx_then ?_
                                              refine tr_region ?_
                                              refine tl_step rfl (oj_val (y_move (fe_t rfl)) ?_)
                                              refine tl_step rfl (oj_val (y_assign (fe_t rfl)) ?_)
                                              refine tl_nil ?_
                                              refine tx_in ?_
                                              apply tx_back2 (t) (vx2)
                                              · exact (cov_cons (by first | rfl | exact v_int (by omega) | exact v_bool (by simp [*])) (cov_nil))
                                              · repeat (first | exact over_nil | refine over_put rfl ?_ | refine over_drop rfl ?_)
                                              · exact fun w h => h.pick [0] _ rfl (by decide)
                                              · exact ⟨⟨by omega, by rw [hvx2, show k = t by omega], fun h => by have := hend h; exact .inl this⟩, by omega⟩
                                  · try (exfalso; omega)
                                    all_goals
                                      refine tl_skip rfl rfl rfl rfl ?_
                                      refine tl_skip rfl rfl rfl rfl ?_
                                      refine tl_skip rfl rfl rfl rfl ?_
                                      refine tl_skip rfl rfl rfl rfl ?_
                                      refine tl_skip rfl rfl rfl rfl ?_
                                      refine tl_skip rfl rfl rfl rfl ?_
                                      refine tl_skip rfl rfl rfl rfl ?_
                                      refine tl_step rfl (oj_val (y_pickf (fe_t rfl) fe_c) ?_)
                                      refine tl_nil ?_
                                      refine tx_then ?_
                                      refine tr_condf (fe_t rfl) ?_
                                      refine tr_exit ?_
                                      refine tx_then_exit ?_
                                      refine tx_then_exit ?_
                                      refine tx_in_exit ?_
                                      refine tx_then ?_
                                      refine tr_seq ?_
                                      have hfl : f < l.length := by omega
                                      have htf : f < t := by
                                        rcases Nat.lt_or_ge f t with h | h
                                        · exact h
                                        · obtain rfl : f = t := by omega
                                          omega
                                      have hend : ∀ h : t < l.length, l[t].2 < tg := fun h => by omega
                                      obtain ⟨hst1, hst2⟩ := seg_start (tg := tg) (iv := iv) hfl (by omega) (by rcases hfr hfl with h | h; omega; exact h)
                                      have ha := fine_pos (fun j hj => hf j (by omega)) hfl
                                      obtain ⟨_, _, _, ha1, _⟩ := hf f (by omega)
                                      refine tb_draw 9 (sel _ [0]) (fun w h => h.sel _ rfl (by decide)) rfl ?_
                                      refine tb_float (i := 0) rfl (by kernel_rfl) rfl (wants_none rfl) (yq_of (y_move (fe_t rfl))) ?_
                                      refine tb_float (i := 1) rfl (by kernel_rfl) rfl (wants_none rfl) (yq_of (y_move (fe_t rfl))) ?_
                                      refine tb_float (i := 2) rfl (by kernel_rfl) rfl (wants_none rfl) (yq_of (y_index Try.underlying71 Try.sizeOf164 (fe_t rfl) (fe_t rfl) (rdl_out hr) (lenF (fun _ => rfl) hn) (by decide) (by omega) rfl)) ?_
                                      refine tb_float (i := 3) rfl (by kernel_rfl) rfl (wants_none rfl) (yq_of (y_fieldAddrE (td := 3) Try.underlying164 rfl rfl Try.sizeOf3 rfl (fe_t rfl) (rdl_out hr) (by rw [lenF (s := 2) (fun _ => rfl) hn]; omega))) ?_
                                      refine tb_float (i := 4) rfl (by kernel_rfl) rfl (wants_none rfl) (yq_of (y_ld Try.isAgg3 (fe_t rfl) (rdl_out hr) (getF (c := c2) (l := l) (fun _ => rfl) (by omega) 0 _ rfl))) ?_
                                      refine tb_float (i := 5) rfl (by kernel_rfl) rfl (wants_none rfl) (yq_of (y_move (fe_t rfl))) ?_
                                      refine tb_float (i := 6) rfl (by kernel_rfl) rfl (wants_none rfl) (yq_of (y_add (fe_t rfl) (fe_t rfl) (by omega))) ?_
                                      refine tb_float (i := 7) rfl (by kernel_rfl) rfl (wants_none rfl) (yq_of (y_assign fe_c)) ?_
                                      refine tb_float (i := 8) rfl (by kernel_rfl) rfl (wants_none rfl) (yq_of (y_assign (fe_t rfl))) ?_
                                      refine tb_done (by kernel_rfl) ?_
                                      refine tx_then ?_
                                      refine tr_seq ?_
                                      refine tr_seq ?_
                                      refine tr_region ?_
                                      refine tl_step rfl (oj_val (y_move (fe_t rfl)) ?_)
                                      refine tl_step rfl (oj_val (y_inc (fe_t rfl) fe_c (by omega)) ?_)
                                      refine tl_step rfl (oj_val (y_assign (fe_t rfl)) ?_)
                                      refine tl_nil ?_
                                      refine tx_then ?_
                                      refine tr_block ?_
                                      refine tr_loop4 [13, 14, 15, 117, 118, 119, 120, 121, 122, 123, 124, 125, 126, 127, 128, 129, 130, 131, 132, 133, 134, 135, 136, 137, 138, 139, 140, 141, 142, 143, 144, 145] (fun (k : Nat) (nn : Nat) (e : Int) (vx2 : List Value) => [(15, .int .i64 (k : Int)), (13, .int .i64 (nn : Int)), (14, .int .i64 e)]) 0 (fun (k : Nat) (nn : Nat) (e : Int) (vx2 : List Value) => [(0, vec 4 1 (.slice (some ⟨g, 0, none⟩) n n) n vx2)]) (fun (k : Nat) (nn : Nat) (e : Int) (vx2 : List Value) => f + 1 ≤ k ∧ k ≤ t ∧ vx2 = outs tg iv l n k ∧ Seg tg iv l (l[f]'hfl).1 k nn e) (fun (k : Nat) (nn : Nat) (e : Int) (vx2 : List Value) => t - k) (f + 1) (0) ((l[f]'hfl).1 + iv) (vx) (cov_cons (by first | rfl | exact v_int (by omega) | exact v_bool (by simp [*])) (cov_cons (by first | rfl | exact v_int (by omega) | exact v_bool (by simp [*])) (cov_cons (by first | rfl | exact v_int (by omega) | exact v_bool (by simp [*])) (cov_nil)))) (fun w h => h) ?_ ?_
                                      · try dsimp only
                                        exact ⟨by omega, by omega, by rw [hvx, outs_false hn (by omega) hst2], hst1⟩
                                      intro k nn e vx2 hp
                                      obtain ⟨hk0, hk1, hvx2, hsg⟩ := hp
                                      have hri := run_inv (tg := tg) (l := l) h3 h4 k (by omega) (fun j hj => hf j (by omega))
                                      refine tr_seq ?_
                                      refine tr_seq ?_
                                      refine tr_region ?_
                                      refine tl_step rfl (oj_val (y_move (fe_t rfl)) ?_)
                                      refine tl_step rfl (oj_val (y_move (fe_t rfl)) ?_)
                                      refine tl_step rfl (oj_val (y_lss (fe_t rfl) (fe_t rfl)) ?_)
                                      refine tl_nil ?_
                                      refine tx_then ?_
                                      refine tr_condp (fe_t rfl) (fun hq45 => ?_) (fun hq46 => ?_)
                                      · try (exfalso; omega)
                                        all_goals
                                          refine tr_skip ?_
                                          refine tx_then ?_
                                          refine tr_seq ?_
                                          refine tr_block ?_
                                          refine tr_seq ?_
                                          refine tr_seq ?_
                                          have hm0 := hri.m
                                          have hn0 := hri.n0
                                          have hn1 := hri.n1
                                          have hse := hsg.m
                                          have hs0 := hsg.e0
                                          have hs1 := hsg.e1
                                          obtain ⟨_, _, _, hak, _⟩ := hf k (by omega)
                                          refine tr_region ?_
                                          refine tl_step rfl (oj_val (y_move (fe_t rfl)) ?_)
                                          refine tl_step rfl (oj_val (y_move (fe_t rfl)) ?_)
                                          refine tl_step rfl (oj_val (y_index Try.underlying71 Try.sizeOf164 (fe_t rfl) (fe_t rfl) (rdl_out hr) (lenF (fun _ => rfl) hn) (by decide) (by omega) rfl) ?_)
                                          refine tl_step rfl (oj_val (y_fieldAddrE (td := 3) Try.underlying164 rfl rfl Try.sizeOf3 rfl (fe_t rfl) (rdl_out hr) (by rw [lenF (s := 2) (fun _ => rfl) hn]; omega)) ?_)
                                          refine tl_step rfl (oj_val (y_ld Try.isAgg3 (fe_t rfl) (rdl_out hr) (getF (c := c2) (l := l) (fun _ => rfl) (by omega) 0 _ rfl)) ?_)
                                          refine tl_step rfl (oj_val (y_move (fe_t rfl)) ?_)
                                          refine tl_step rfl (oj_val (y_lss (fe_t rfl) (fe_t rfl)) ?_)
                                          refine tl_nil ?_
                                          refine tx_then ?_
                                          refine tr_condp (fe_t rfl) (fun hq47 => ?_) (fun hq48 => ?_)
                                          · try (exfalso; omega)
                                            all_goals
                                              have hlt := hq47
                                              refine tr_exit ?_
                                              refine tx_then_exit ?_
                                              refine tx_in_exit ?_
                                              refine tx_then ?_
                                              refine tr_region ?_
                                              refine tl_step rfl (oj_val (y_move (fe_t rfl)) ?_)
                                              refine tl_step rfl (oj_val (y_inc (fe_t rfl) fe_c (by omega)) ?_)
                                              refine tl_step rfl (oj_val (y_assign (fe_t rfl)) ?_)
                                              refine tl_nil ?_
                                              apply tx_back4 (k + 1) (nn) (e) (vx2)
                                              · exact (cov_cons (by first | rfl | exact v_int (by omega) | exact v_bool (by simp [*])) (cov_cons (by first | rfl | exact v_int (by omega) | exact v_bool (by simp [*])) (cov_cons (by first | rfl | exact v_int (by omega) | exact v_bool (by simp [*])) (cov_nil))))
                                              · repeat (first | exact over_nil | refine over_put rfl ?_ | refine over_drop rfl ?_)
                                              · exact fun w h => h.pick [0] _ rfl (by decide)
                                              · obtain ⟨hs1, hs2⟩ := seg_no (by omega) hri ha (hw k (by omega) (by omega) (by omega)) hsg hlt
                                                exact ⟨⟨by omega, by omega, by rw [hvx2, outs_false hn (by omega) hs2], hs1⟩, by omega⟩
                                          · try (exfalso; omega)
                                            all_goals
                                              obtain ⟨hs1, hs2⟩ := seg_yes (by omega) hri ha (hw k (by omega) (by omega) (by omega)) hsg (by omega)
                                              have hgb := gapv_bd h3 h4 (show 1 ≤ nn + 1 by omega)
                                              refine tr_skip ?_
                                              refine tx_then ?_
                                              refine tr_seq ?_
                                              refine tr_seq ?_
                                              refine tr_region ?_
                                              refine tl_step rfl (oj_val (y_move (fe_t rfl)) ?_)
                                              refine tl_step rfl (oj_val (y_eq (fe_t rfl) fe_c) ?_)
                                              refine tl_nil ?_
                                              refine tx_then ?_
                                              refine tr_condp (fe_t rfl) (fun hq49 => ?_) (fun hq50 => ?_)
                                              · try (exfalso; omega)
                                                all_goals
                                                  refine tr_region ?_
                                                  refine tl_step rfl (oj_val (y_move (fe_t rfl)) ?_)
                                                  refine tl_step rfl (oj_val (y_move (fe_t rfl)) ?_)
                                                  refine tl_step rfl (oj_val (y_index Try.underlying71 Try.sizeOf164 (fe_t rfl) (fe_t rfl) (rdl_out hr) (lenF (fun _ => rfl) hn) (by decide) (by omega) rfl) ?_)
                                                  refine tl_step rfl (oj_val (y_fieldAddrE (td := 3) Try.underlying164 rfl rfl Try.sizeOf3 rfl (fe_t rfl) (rdl_out hr) (by rw [lenF (s := 2) (fun _ => rfl) hn]; omega)) ?_)
                                                  refine tl_step rfl (oj_val (y_ld Try.isAgg3 (fe_t rfl) (rdl_out hr) (getF (c := c2) (l := l) (fun _ => rfl) (by omega) 0 _ rfl)) ?_)
                                                  refine tl_step rfl (oj_val (y_assign (fe_t rfl)) ?_)
                                                  refine tl_nil ?_
                                                  refine tx_then ?_
                                                  refine tr_seq ?_
                                                  refine tr_region ?_
                                                  refine tl_step rfl (oj_val (y_move (fe_t rfl)) ?_)
                                                  refine tl_step rfl (oj_val (y_inc (fe_t rfl) fe_c (by omega)) ?_)
                                                  refine tl_step rfl (oj_val (y_assign (fe_t rfl)) ?_)
                                                  refine tl_nil ?_
                                                  refine tx_then ?_
                                                  refine tr_seq ?_
                                                  refine tr_region ?_
                                                  refine tl_step rfl (oj_val (y_move (fe_t rfl)) ?_)
                                                  refine tl_step rfl (oj_val (y_move (fe_t rfl)) ?_)
                                                  refine tl_step rfl (oj_val (y_index Try.underlying73 Try.sizeOf4 (fe_t rfl) (fe_t rfl) (rdl_vec 0 rfl) (by first | (rw [hvx]; exact (outs_len hn (by omega)).trans (Nat.mul_one _).symm) | (rw [hvx2]; exact (outs_len hn (by omega)).trans (Nat.mul_one _).symm)) (by decide) (by omega) (Nat.mul_one _)) ?_)
                                                  refine tl_step rfl (oj_storeE1 (i := 0) Try.sizeOf4 (fe_t rfl) fe_c rfl rfl rfl (by omega) (?_))
                                                  refine tl_nil ?_
                                                  refine tx_then ?_
                                                  refine tr_region ?_
                                                  refine tl_step rfl (oj_val (y_move (fe_t rfl)) ?_)
                                                  refine tl_step rfl (oj_val (y_move (fe_t rfl)) ?_)
                                                  refine tl_step rfl (oj_val (y_move (fe_t rfl)) ?_)
                                                  refine tl_step rfl (oj_callv Try.call57 fe_f (fel_cons (fe_t rfl) (fel_cons (fe_t rfl) fel_nil)) (fun w' hS => tgapE (n := nn + 1) h3 h4 (by omega) (by omega) w') ?_)
                                                  refine tl_step rfl (oj_val (y_as (b := (if nn = 0 then l[k].1 else e) + gapv iv (nn + 1)) (y_add (fe_t rfl) (fe_t rfl) (by first | omega | (split <;> omega))) (by first | rw [if_pos (by omega)] | rw [if_neg (by omega)])) ?_)
                                                  refine tl_step rfl (oj_val (y_assign (fe_t rfl)) ?_)
                                                  refine tl_nil ?_
                                                  refine tx_in ?_
                                                  refine tx_then ?_
                                                  refine tr_region ?_
                                                  refine tl_step rfl (oj_val (y_move (fe_t rfl)) ?_)
                                                  refine tl_step rfl (oj_val (y_inc (fe_t rfl) fe_c (by omega)) ?_)
                                                  refine tl_step rfl (oj_val (y_assign (fe_t rfl)) ?_)
                                                  refine tl_nil ?_
                                                  apply tx_back4 (k + 1) (nn + 1) ((if nn = 0 then l[k].1 else e) + gapv iv (nn + 1)) (_)
                                                  · exact (cov_cons (by first | rfl | exact v_int (by omega) | exact v_bool (by simp [*])) (cov_cons (by first | rfl | exact v_int (by omega) | exact v_bool (by simp [*])) (cov_cons (by first | rfl | exact v_int (by omega) | exact v_bool (by simp [*])) (cov_nil))))
                                                  · repeat (first | exact over_nil | refine over_put rfl ?_ | refine over_drop rfl ?_)
                                                  · exact fun w h => h.pick [0] _ rfl (by decide)
                                                  · exact ⟨⟨by omega, by omega, by rw [hvx2, outs_true hn (by omega) hs2], hs1⟩, by omega⟩
                                              · try (exfalso; omega)
                                                all_goals
                                                  refine tr_skip ?_
                                                  refine tx_then ?_
                                                  refine tr_seq ?_
                                                  refine tr_region ?_
                                                  refine tl_step rfl (oj_val (y_move (fe_t rfl)) ?_)
                                                  refine tl_step rfl (oj_val (y_inc (fe_t rfl) fe_c (by omega)) ?_)
                                                  refine tl_step rfl (oj_val (y_assign (fe_t rfl)) ?_)
                                                  refine tl_nil ?_
                                                  refine tx_then ?_
                                                  refine tr_seq ?_
                                                  refine tr_region ?_
                                                  refine tl_step rfl (oj_val (y_move (fe_t rfl)) ?_)
                                                  refine tl_step rfl (oj_val (y_move (fe_t rfl)) ?_)
                                                  refine tl_step rfl (oj_val (y_index Try.underlying73 Try.sizeOf4 (fe_t rfl) (fe_t rfl) (rdl_vec 0 rfl) (by first | (rw [hvx]; exact (outs_len hn (by omega)).trans (Nat.mul_one _).symm) | (rw [hvx2]; exact (outs_len hn (by omega)).trans (Nat.mul_one _).symm)) (by decide) (by omega) (Nat.mul_one _)) ?_)
                                                  refine tl_step rfl (oj_storeE1 (i := 0) Try.sizeOf4 (fe_t rfl) fe_c rfl rfl rfl (by omega) (?_))
                                                  refine tl_nil ?_
                                                  refine tx_then ?_
                                                  refine tr_region ?_
                                                  refine tl_step rfl (oj_val (y_move (fe_t rfl)) ?_)
                                                  refine tl_step rfl (oj_val (y_move (fe_t rfl)) ?_)
                                                  refine tl_step rfl (oj_val (y_move (fe_t rfl)) ?_)
                                                  refine tl_step rfl (oj_callv Try.call57 fe_f (fel_cons (fe_t rfl) (fel_cons (fe_t rfl) fel_nil)) (fun w' hS => tgapE (n := nn + 1) h3 h4 (by omega) (by omega) w') ?_)
                                                  refine tl_step rfl (oj_val (y_as (b := (if nn = 0 then l[k].1 else e) + gapv iv (nn + 1)) (y_add (fe_t rfl) (fe_t rfl) (by first | omega | (split <;> omega))) (by first | rw [if_pos (by omega)] | rw [if_neg (by omega)])) ?_)
                                                  refine tl_step rfl (oj_val (y_assign (fe_t rfl)) ?_)
                                                  refine tl_nil ?_
                                                  refine tx_in ?_
                                                  refine tx_then ?_
                                                  refine tr_region ?_
                                                  refine tl_step rfl (oj_val (y_move (fe_t rfl)) ?_)
                                                  refine tl_step rfl (oj_val (y_inc (fe_t rfl) fe_c (by omega)) ?_)
                                                  refine tl_step rfl (oj_val (y_assign (fe_t rfl)) ?_)
                                                  refine tl_nil ?_
                                                  apply tx_back4 (k + 1) (nn + 1) ((if nn = 0 then l[k].1 else e) + gapv iv (nn + 1)) (_)
                                                  · exact (cov_cons (by first | rfl | exact v_int (by omega) | exact v_bool (by simp [*])) (cov_cons (by first | rfl | exact v_int (by omega) | exact v_bool (by simp [*])) (cov_cons (by first | rfl | exact v_int (by omega) | exact v_bool (by simp [*])) (cov_nil))))
                                                  · repeat (first | exact over_nil | refine over_put rfl ?_ | refine over_drop rfl ?_)
                                                  · exact fun w h => h.pick [0] _ rfl (by decide)
                                                  · exact ⟨⟨by omega, by omega, by rw [hvx2, outs_true hn (by omega) hs2], hs1⟩, by omega⟩
                                      · try (exfalso; omega)
                                        all_goals
                                          refine tr_exit ?_
                                          refine tx_then_exit ?_
                                          refine tx_then_exit ?_
                                          refine tx_in_exit ?_
                                          refine tx_then ?_
                                          refine tr_region ?_
                                          refine tl_step rfl (oj_val (y_move (fe_t rfl)) ?_)
                                          refine tl_step rfl (oj_val (y_assign (fe_t rfl)) ?_)
                                          refine tl_nil ?_
                                          refine tx_in ?_
                                          apply tx_back2 (t) (vx2)
                                          · exact (cov_cons (by first | rfl | exact v_int (by omega) | exact v_bool (by simp [*])) (cov_nil))
                                          · repeat (first | exact over_nil | refine over_put rfl ?_ | refine over_drop rfl ?_)
                                          · exact fun w h => h.pick [0] _ rfl (by decide)
                                          · exact ⟨⟨by omega, by rw [hvx2, show k = t by omega], fun h => by have := hend h; exact .inl this⟩, by omega⟩
                          · try (exfalso; omega)
                            all_goals
                              refine tr_exit ?_
                              refine tx_then_exit ?_
                              refine tx_then_exit ?_
                              refine tx_in_exit ?_
                              refine tx_then ?_
                              refine tr_seq ?_
                              refine tr_region ?_
                              refine tl_step rfl (oj_val (y_move (fe_t rfl)) ?_)
                              refine tl_step rfl (oj_val (y_assign (fe_t rfl)) ?_)
                              refine tl_step rfl (oj_val (y_assign fe_c) ?_)
                              refine tl_nil ?_
                              refine tx_then ?_
                              refine tr_ret ?_
                              refine tx_ret (res2 Try.results55 (rok_t rfl) (rok_t rfl)) (fun w' hS => ?_)
                              have ef : f = n := by omega
                              subst ef
                              rw [hvx, outs_all hn] at hS
                              exact ⟨⟨some ⟨g, 0, none⟩, f, f, []⟩, Nat.le_refl _, rfl, hS.pick [0] _ rfl (by decide)⟩

end Go.Proofs.Ytcpdelkamckmfaa.Red
