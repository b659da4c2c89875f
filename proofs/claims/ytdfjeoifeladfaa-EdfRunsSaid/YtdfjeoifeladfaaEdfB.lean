/- edf.Run. -/
import Derived.Test.YtdfjeoifeladfaaEdfA
import Derived.Test.YtdfjeoifeladfaaRpE
namespace Go.Proofs.Ytdfjeoifeladfaa.Edf
open Go.RowKit Go.Proofs.Ytdfjeoifeladfaa.E

set_option maxRecDepth 100000 in
set_option maxHeartbeats 1000000 in
theorem run_bad (A : Option Addr) (n c : Nat) (l : List J) (w : World) (hr : Rd w A (l.flatMap cj)) (hn : l.length = n) (hm : n ≤ 140737488355328) (hw : ¬ wrongOf l = 0) :
    Calls Try.prog 49 #[.slice A n c] w fun e w' => e = .returned (.tuple #[.slice none 0 0, (.int .i64 (wrongOf l))]) ∧ St w w' [] := by
  refine calls_tr Try.func49 Try.ntmps49 rfl rfl (St.refl _) ?_
  refine tr_seq ?_
  refine tr_region ?_
  refine tl_step rfl (oj_val (y_assign fe_c) ?_)
  refine tl_step rfl (oj_val (y_assign fe_c) ?_)
  refine tl_nil ?_
  refine tx_then ?_
  refine tr_seq ?_
  refine tr_seq ?_
  refine tr_region ?_
  refine tl_step rfl (oj_val (y_move (fe_t rfl)) ?_)
  refine tl_step rfl (oj_callv Try.call52 fe_f (fel_cons (fe_t rfl) fel_nil) (fun w' hS => wrongE A n c l w' (Rd.below hr hS.below) hn hm) ?_)
  refine tl_step rfl (oj_val (y_assign (fe_t rfl)) ?_)
  refine tl_nil ?_
  refine tx_then ?_
  refine tr_seq ?_
  refine tr_region ?_
  refine tl_step rfl (oj_val (y_move (fe_t rfl)) ?_)
  refine tl_step rfl (oj_val (y_neq (fe_t rfl) fe_c) ?_)
  refine tl_nil ?_
  refine tx_then ?_
  refine tr_condp (fe_t rfl) (fun hq1 => ?_) (fun hq2 => ?_)
  · try (exfalso; omega)
    all_goals
      refine tr_seq ?_
      refine tr_region ?_
      refine tl_step rfl (oj_val (y_move (fe_t rfl)) ?_)
      refine tl_step rfl (oj_val (y_assign fe_c) ?_)
      refine tl_step rfl (oj_val (y_assign (fe_t rfl)) ?_)
      refine tl_nil ?_
      refine tx_then ?_
      refine tr_ret ?_
      refine tx_then_ret ?_
      refine tx_ret (res2 Try.results49 (rok_t rfl) (rok_t rfl)) (fun w' hS => ?_)
      exact ⟨rfl, hS.pick [] _ rfl (by decide)⟩
  · exact absurd hw (by simpa using hq2)

set_option maxRecDepth 100000 in
set_option maxHeartbeats 4000000 in
theorem run_ok (A : Option Addr) (n c : Nat) (l : List J) (w : World) (hr : Rd w A (l.flatMap cj)) (hn : l.length = n) (hm : n ≤ 140737488355328) (hw : wrongOf l = 0) (hl : n ≤ 400) :
    Calls Try.prog 49 #[.slice A n c] w fun e w' => ∃ q : Nat × List Int, Run l n 1000 q.2 ∧ e = .returned (.tuple #[.slice (some ⟨q.1, 0, none⟩) n n, (.int .i64 0)]) ∧ St w w' [vec 3 1 (.slice (some ⟨q.1, 0, none⟩) n n) n (cI q.2)] := by
  refine calls_tr Try.func49 Try.ntmps49 rfl rfl (St.refl _) ?_
  refine tr_seq ?_
  refine tr_region ?_
  refine tl_step rfl (oj_val (y_assign fe_c) ?_)
  refine tl_step rfl (oj_val (y_assign fe_c) ?_)
  refine tl_nil ?_
  refine tx_then ?_
  refine tr_seq ?_
  refine tr_seq ?_
  refine tr_region ?_
  refine tl_step rfl (oj_val (y_move (fe_t rfl)) ?_)
  refine tl_step rfl (oj_callv Try.call52 fe_f (fel_cons (fe_t rfl) fel_nil) (fun w' hS => wrongE A n c l w' (Rd.below hr hS.below) hn hm) ?_)
  refine tl_step rfl (oj_val (y_assign (fe_t rfl)) ?_)
  refine tl_nil ?_
  refine tx_then ?_
  refine tr_seq ?_
  refine tr_region ?_
  refine tl_step rfl (oj_val (y_move (fe_t rfl)) ?_)
  refine tl_step rfl (oj_val (y_neq (fe_t rfl) fe_c) ?_)
  refine tl_nil ?_
  refine tx_then ?_
  refine tr_condp (fe_t rfl) (fun hq1 => ?_) (fun hq2 => ?_)
  · exact absurd hw hq1
  · try (exfalso; omega)
    all_goals
      refine tr_skip ?_
      refine tx_then ?_
      refine tr_seq ?_
      refine tr_region ?_
      refine tl_step rfl (oj_slice1 Try.underlying31 Try.sizeOf3 Try.zeroValue3 fe_c (by decide) rfl (fun lit => ?_))
      refine tl_step rfl (oj_val (y_move (fe_t rfl)) ?_)
      refine tl_step rfl (oj_val (y_len Try.underlying90 (fe_t rfl)) ?_)
      refine tl_step rfl (oj_call Try.call95 fe_f (fel_cons (fe_t rfl) (fel_cons (fe_t rfl) fel_nil)) (fun w' hS => repeatE _ _ n (-1) w' (rdl_blk 0 rfl w' hS) (by omega)) (fun g0 _ => ?_))
      refine tl_step rfl (oj_val (y_assign (fe_t rfl)) ?_)
      refine tl_nil ?_
      refine tx_then ?_
      refine tr_seq ?_
      refine tr_seq ?_
      refine tr_region ?_
      refine tl_step rfl (oj_val (y_move fe_c) ?_)
      refine tl_nil ?_
      refine tx_then ?_
      refine tr_block ?_
      refine tr_loop3 [6, 7, 8, 9, 19, 20, 21, 22, 23, 24, 25, 26, 27, 28, 29, 30, 31, 32, 33, 34, 35, 36, 37, 38, 39, 40, 41, 42, 43, 44, 45, 46, 47, 48, 49, 50, 51, 52, 53, 54, 55, 56, 57, 58, 59, 60, 61, 62, 63, 64, 65, 66, 67, 68] (fun (t : Nat) (ds : List Int) (vx : List Value) => [(19, .int .i64 (t : Int))]) 0 (fun (t : Nat) (ds : List Int) (vx : List Value) => [(0, vec 3 1 (.slice (some ⟨g0, 0, none⟩) n n) n vx)]) (fun (t : Nat) (ds : List Int) (vx : List Value) => t ≤ 1000 ∧ Run l n t ds ∧ vx = cI ds) (fun (t : Nat) (ds : List Int) (vx : List Value) => 1000 - t) (0) (List.replicate n (-1)) (_) (cov_cons (by first | rfl | exact v_int (by omega) | exact v_bool (by simp [*])) (cov_nil)) (fun w h => h) ?_ ?_
      · try dsimp only
        exact ⟨by omega, rfl, rfl⟩
      intro t ds vx hp
      obtain ⟨ht, hrun, hvx⟩ := hp
      have hdl := run_len hrun
      have hvl : vx.length = n := by rw [hvx]; simpa [cI] using hdl
      refine tr_seq ?_
      refine tr_region ?_
      refine tl_step rfl (oj_val (y_lss (fe_t rfl) fe_c) ?_)
      refine tl_nil ?_
      refine tx_then ?_
      refine tr_seq ?_
      refine tr_condp (fe_t rfl) (fun hq3 => ?_) (fun hq4 => ?_)
      · try (exfalso; omega)
        all_goals
          refine tr_skip ?_
          refine tx_then ?_
          refine tr_seq ?_
          refine tr_block ?_
          refine tr_seq ?_
          refine tr_region ?_
          refine tl_step rfl (oj_val (y_move (fe_t rfl)) ?_)
          refine tl_step rfl (oj_val (y_assign (fe_t rfl)) ?_)
          refine tl_nil ?_
          refine tx_then ?_
          refine tr_seq ?_
          refine tr_region ?_
          refine tl_step rfl (oj_val (y_assign fe_c) ?_)
          refine tl_nil ?_
          refine tx_then ?_
          refine tr_seq ?_
          refine tr_seq ?_
          refine tr_region ?_
          refine tl_step rfl (oj_val (y_move (fe_t rfl)) ?_)
          refine tl_step rfl (oj_val (y_len Try.underlying90 (fe_t rfl)) ?_)
          refine tl_step rfl (oj_val (y_move fe_c) ?_)
          refine tl_nil ?_
          refine tx_then ?_
          refine tr_block ?_
          refine tr_loop2 [7, 8, 9, 24, 25, 26, 27, 28, 29, 30, 31, 32, 33, 34, 35, 36, 37, 38, 39, 40, 41, 42, 43, 44, 45, 46, 47, 48, 49, 50, 51, 52, 53, 54, 55, 56, 57, 58, 59, 60, 61] (fun (k : Nat) (b : Int) => [(24, .int .i64 (k : Int)), (7, .int .i64 b)]) 0 (fun (k : Nat) (b : Int) => []) (fun (k : Nat) (b : Int) => k ≤ n ∧ Best l ds t (· < k) b) (fun (k : Nat) (b : Int) => n - k) (0) (-1) (cov_cons (by first | rfl | exact v_int (by omega) | exact v_bool (by simp [*])) (cov_cons (by first | rfl | exact v_int (by omega) | exact v_bool (by simp [*])) (cov_nil))) (fun w h => h) ?_ ?_
          · try dsimp only
            exact ⟨by omega, best_none.congr (fun j _ => ⟨fun h => h.elim, fun h => absurd h (Nat.not_lt_zero _)⟩)⟩
          intro k b hp
          obtain ⟨hk, hb⟩ := hp
          have hbc := hb.cases
          have hsu : ∀ j, j < k + 1 ↔ j < k ∨ j = k := fun j => by omega
          refine tr_seq ?_
          refine tr_region ?_
          refine tl_step rfl (oj_val (y_lss (fe_t rfl) (fe_t rfl)) ?_)
          refine tl_nil ?_
          refine tx_then ?_
          refine tr_seq ?_
          refine tr_condp (fe_t rfl) (fun hq5 => ?_) (fun hq6 => ?_)
          · try (exfalso; omega)
            all_goals
              refine tr_skip ?_
              refine tx_then ?_
              refine tr_seq ?_
              refine tr_block ?_
              refine tr_seq ?_
              refine tr_region ?_
              refine tl_step rfl (oj_val (y_move (fe_t rfl)) ?_)
              refine tl_step rfl (oj_val (y_index Try.underlying90 Try.sizeOf94 (fe_t rfl) (fe_t rfl) (rdl_out hr) (lenJ hn) (by decide) (by omega) rfl) ?_)
              refine tl_step rfl (oj_val (y_ldA (cs := [(.int .i64 (jf l k)), (.int .i64 (jb l k))]) Try.isAgg94 Try.sizeOf94 (fe_t rfl) (rdl_out hr) rfl (by decide) (getJ (by omega))) ?_)
              refine tl_step rfl (oj_alloc Try.zeroValue94 (fun b1 => ?_))
              refine tl_step rfl (oj_val (y_assign (fe_t rfl)) ?_)
              refine tl_step rfl (oj_storeW 0 Try.sizeOf94 (fe_t rfl) (fe_t rfl) rfl rfl rfl rfl rfl (?_))
              refine tl_nil ?_
              refine tx_then ?_
              refine tr_seq ?_
              refine tr_draw (sel _ [0, 1, 2]) (fun w h => h.sel _ rfl (by decide)) rfl ?_
              refine ta_float (i := 0) rfl (by kernel_rfl) (wants_none rfl) (yq_of (y_move (fe_t rfl))) ?_
              refine ta_float (i := 1) rfl (by kernel_rfl) (wants_none rfl) (yq_of (y_move (fe_t rfl))) ?_
              refine ta_float (i := 2) rfl (by kernel_rfl) (wants_none rfl) (yq_of (y_index Try.underlying31 Try.sizeOf3 (fe_t rfl) (fe_t rfl) (rdl_vec 1 rfl) (by omega) (by decide) (by omega) (Nat.mul_one _))) ?_
              refine ta_float (i := 3) rfl (by kernel_rfl) (wants_none rfl) (yq_of (y_ld (v := (.int .i64 (dv ds k))) Try.isAgg3 (fe_t rfl) (rdl_vec 1 rfl) (by rw [hvx]; exact getD1 (by omega)))) ?_
              refine ta_float (i := 4) rfl (by kernel_rfl) (wants_none rfl) (yq_of (y_lss (fe_t rfl) fe_c)) ?_
              refine ta_float (i := 5) rfl (by kernel_rfl) (wants_none rfl) (yq_of (y_move (fe_t rfl))) ?_
              refine ta_splitp (d := 34) rfl (fun hq7 => ?_) (fun hq8 => ?_)
              · try (exfalso; omega)
                all_goals
                  refine ta_float (i := 6) rfl (by kernel_rfl) (wants_t rfl rfl rfl) (yq_of (y_fieldAddr (td := 3) Try.underlying94 rfl rfl Try.sizeOf3 (o' := 0) rfl (fe_t rfl))) ?_
                  refine ta_float (i := 7) rfl (by kernel_rfl) (wants_t rfl rfl rfl) (yq_of (y_ldb 0 Try.isAgg3 (fe_t rfl) rfl rfl)) ?_
                  refine ta_float (i := 8) rfl (by kernel_rfl) (wants_t rfl rfl rfl) (yq_of (y_move (fe_t rfl))) ?_
                  refine ta_float (i := 9) rfl (by kernel_rfl) (wants_t rfl rfl rfl) (yq_of (y_leq (fe_t rfl) (fe_t rfl))) ?_
                  refine ta_float (i := 10) rfl (by kernel_rfl) (wants_none rfl) (yq_of (y_pickt (fe_t rfl) (fe_t rfl))) ?_
                  refine ta_float (i := 11) rfl (by kernel_rfl) (wants_none rfl) (yq_of (y_move (fe_t rfl))) ?_
                  refine ta_splitp (d := 40) rfl (fun hq9 => ?_) (fun hq10 => ?_)
                  · try (exfalso; omega)
                    all_goals
                      refine ta_float (i := 12) rfl (by kernel_rfl) (wants_t rfl rfl rfl) (yq_of (y_move (fe_t rfl))) ?_
                      refine ta_float (i := 13) rfl (by kernel_rfl) (wants_t rfl rfl rfl) (yq_of (y_fieldAddr (td := 3) Try.underlying94 rfl rfl Try.sizeOf3 (o' := 1) rfl (fe_t rfl))) ?_
                      refine ta_float (i := 14) rfl (by kernel_rfl) (wants_t rfl rfl rfl) (yq_of (y_ldb 0 Try.isAgg3 (fe_t rfl) rfl rfl)) ?_
                      refine ta_float (i := 15) rfl (by kernel_rfl) (wants_t rfl rfl rfl) (yq_of (y_lss (fe_t rfl) (fe_t rfl))) ?_
                      refine ta_float (i := 16) rfl (by kernel_rfl) (wants_none rfl) (yq_of (y_pickt (fe_t rfl) (fe_t rfl))) ?_
                      refine ta_float (i := 17) rfl (by kernel_rfl) (wants_none rfl) (yq_of (y_move (fe_t rfl))) ?_
                      refine ta_splitp (d := 46) rfl (fun hq11 => ?_) (fun hq12 => ?_)
                      · try (exfalso; omega)
                        all_goals
                          refine ta_float (i := 18) rfl (by kernel_rfl) (wants_t rfl rfl rfl) (yq_of (y_move (fe_t rfl))) ?_
                          refine ta_float (i := 19) rfl (by kernel_rfl) (wants_t rfl rfl rfl) (yq_of (y_lss (fe_t rfl) fe_c)) ?_
                          refine ta_float (i := 20) rfl (by kernel_rfl) (wants_t rfl rfl rfl) (yq_of (y_move (fe_t rfl))) ?_
                          refine ta_splitp (d := 49) rfl (fun hq13 => ?_) (fun hq14 => ?_)
                          · try (exfalso; omega)
                            all_goals
                              refine ta_skip (i := 21) rfl (by kernel_rfl) (wants_f rfl rfl rfl rfl) ?_
                              refine ta_skip (i := 22) rfl (by kernel_rfl) (wants_f rfl rfl rfl rfl) ?_
                              refine ta_skip (i := 23) rfl (by kernel_rfl) (wants_f rfl rfl rfl rfl) ?_
                              refine ta_skip (i := 24) rfl (by kernel_rfl) (wants_f rfl rfl rfl rfl) ?_
                              refine ta_skip (i := 25) rfl (by kernel_rfl) (wants_f rfl rfl rfl rfl) ?_
                              refine ta_skip (i := 26) rfl (by kernel_rfl) (wants_f rfl rfl rfl rfl) ?_
                              refine ta_skip (i := 27) rfl (by kernel_rfl) (wants_f rfl rfl rfl rfl) ?_
                              refine ta_skip (i := 28) rfl (by kernel_rfl) (wants_f rfl rfl rfl rfl) ?_
                              refine ta_float (i := 29) rfl (by kernel_rfl) (wants_t rfl rfl rfl) (yq_of (y_pickt (fe_t rfl) fe_c)) ?_
                              refine ta_float (i := 30) rfl (by kernel_rfl) (wants_none rfl) (yq_of (y_pickt (fe_t rfl) (fe_t rfl))) ?_
                              refine ta_done (by kernel_rfl) ?_
                              refine tx_then ?_
                              refine tr_condt (fe_t rfl) ?_
                              refine tr_region ?_
                              refine tl_step rfl (oj_val (y_move (fe_t rfl)) ?_)
                              refine tl_step rfl (oj_val (y_assign (fe_t rfl)) ?_)
                              refine tl_nil ?_
                              refine tx_in ?_
                              refine tx_then ?_
                              refine tr_region ?_
                              refine tl_step rfl (oj_val (y_inc (fe_t rfl) fe_c (by omega)) ?_)
                              refine tl_step rfl (oj_val (y_move (fe_t rfl)) ?_)
                              refine tl_nil ?_
                              apply tx_back2 (k + 1) ((k : Int))
                              · exact (cov_cons (by first | rfl | exact v_int (by omega) | exact v_bool (by simp [*])) (cov_cons (by first | rfl | exact v_int (by omega) | exact v_bool (by simp [*])) (cov_nil)))
                              · repeat (first | exact over_nil | refine over_put rfl ?_ | refine over_drop rfl ?_)
                              · exact fun w h => h.pick [1, 2] _ rfl (by decide)
                              · first
                                  | exact ⟨⟨by omega, hb.take hsu ⟨by omega, by omega, by omega⟩ (by omega)⟩, by omega⟩
                                  | exact ⟨⟨by omega, hb.skip hsu (fun he => by have h1 := he.1; have h2 := he.2; omega)⟩, by omega⟩
                                  | exact ⟨⟨by omega, hb.keep hsu (by omega) (by omega)⟩, by omega⟩
                          · try (exfalso; omega)
                            all_goals
                              refine ta_float (i := 21) rfl (by kernel_rfl) (wants_t rfl rfl rfl) (yq_of (y_fieldAddr (td := 3) Try.underlying94 rfl rfl Try.sizeOf3 (o' := 1) rfl (fe_t rfl))) ?_
                              refine ta_float (i := 22) rfl (by kernel_rfl) (wants_t rfl rfl rfl) (yq_of (y_ldb 0 Try.isAgg3 (fe_t rfl) rfl rfl)) ?_
                              refine ta_float (i := 23) rfl (by kernel_rfl) (wants_t rfl rfl rfl) (yq_of (y_move (fe_t rfl))) ?_
                              refine ta_float (i := 24) rfl (by kernel_rfl) (wants_t rfl rfl rfl) (yq_of (y_move (fe_t rfl))) ?_
                              refine ta_float (i := 25) rfl (by kernel_rfl) (wants_t rfl rfl rfl) (yq_of (y_indexI Try.underlying90 Try.sizeOf94 (fe_t rfl) (fe_t rfl) (rdl_out hr) (lenJ hn) (by decide) (by omega) (by omega) rfl)) ?_
                              refine ta_float (i := 26) rfl (by kernel_rfl) (wants_t rfl rfl rfl) (yq_of (y_fieldAddrE (td := 3) Try.underlying94 rfl rfl Try.sizeOf3 rfl (fe_t rfl) (rdl_out hr) (by rw [lenJ hn]; omega))) ?_
                              refine ta_float (i := 27) rfl (by kernel_rfl) (wants_t rfl rfl rfl) (yq_of (y_ld (v := (.int .i64 (jb l b.toNat))) Try.isAgg3 (fe_t rfl) (rdl_out hr) (getJb (by omega)))) ?_
                              refine ta_float (i := 28) rfl (by kernel_rfl) (wants_t rfl rfl rfl) (yq_of (y_lss (fe_t rfl) (fe_t rfl))) ?_
                              refine ta_float (i := 29) rfl (by kernel_rfl) (wants_t rfl rfl rfl) (yq_of (y_pickf (fe_t rfl) (fe_t rfl))) ?_
                              refine ta_float (i := 30) rfl (by kernel_rfl) (wants_none rfl) (yq_of (y_pickt (fe_t rfl) (fe_t rfl))) ?_
                              refine ta_done (by kernel_rfl) ?_
                              refine tx_then ?_
                              refine tr_condp (fe_t rfl) (fun hq15 => ?_) (fun hq16 => ?_)
                              · try (exfalso; omega)
                                all_goals
                                  refine tr_region ?_
                                  refine tl_step rfl (oj_val (y_move (fe_t rfl)) ?_)
                                  refine tl_step rfl (oj_val (y_assign (fe_t rfl)) ?_)
                                  refine tl_nil ?_
                                  refine tx_in ?_
                                  refine tx_then ?_
                                  refine tr_region ?_
                                  refine tl_step rfl (oj_val (y_inc (fe_t rfl) fe_c (by omega)) ?_)
                                  refine tl_step rfl (oj_val (y_move (fe_t rfl)) ?_)
                                  refine tl_nil ?_
                                  apply tx_back2 (k + 1) ((k : Int))
                                  · exact (cov_cons (by first | rfl | exact v_int (by omega) | exact v_bool (by simp [*])) (cov_cons (by first | rfl | exact v_int (by omega) | exact v_bool (by simp [*])) (cov_nil)))
                                  · repeat (first | exact over_nil | refine over_put rfl ?_ | refine over_drop rfl ?_)
                                  · exact fun w h => h.pick [1, 2] _ rfl (by decide)
                                  · first
                                      | exact ⟨⟨by omega, hb.take hsu ⟨by omega, by omega, by omega⟩ (by omega)⟩, by omega⟩
                                      | exact ⟨⟨by omega, hb.skip hsu (fun he => by have h1 := he.1; have h2 := he.2; omega)⟩, by omega⟩
                                      | exact ⟨⟨by omega, hb.keep hsu (by omega) (by omega)⟩, by omega⟩
                              · try (exfalso; omega)
                                all_goals
                                  refine tr_skip ?_
                                  refine tx_in ?_
                                  refine tx_then ?_
                                  refine tr_region ?_
                                  refine tl_step rfl (oj_val (y_inc (fe_t rfl) fe_c (by omega)) ?_)
                                  refine tl_step rfl (oj_val (y_move (fe_t rfl)) ?_)
                                  refine tl_nil ?_
                                  apply tx_back2 (k + 1) (b)
                                  · exact (cov_cons (by first | rfl | exact v_int (by omega) | exact v_bool (by simp [*])) (cov_cons (by first | rfl | exact v_int (by omega) | exact v_bool (by simp [*])) (cov_nil)))
                                  · repeat (first | exact over_nil | refine over_put rfl ?_ | refine over_drop rfl ?_)
                                  · exact fun w h => h.pick [1, 2] _ rfl (by decide)
                                  · first
                                      | exact ⟨⟨by omega, hb.take hsu ⟨by omega, by omega, by omega⟩ (by omega)⟩, by omega⟩
                                      | exact ⟨⟨by omega, hb.skip hsu (fun he => by have h1 := he.1; have h2 := he.2; omega)⟩, by omega⟩
                                      | exact ⟨⟨by omega, hb.keep hsu (by omega) (by omega)⟩, by omega⟩
                      · try (exfalso; omega)
                        all_goals
                          refine ta_skip (i := 18) rfl (by kernel_rfl) (wants_f rfl rfl rfl rfl) ?_
                          refine ta_skip (i := 19) rfl (by kernel_rfl) (wants_f rfl rfl rfl rfl) ?_
                          refine ta_skip (i := 20) rfl (by kernel_rfl) (wants_f rfl rfl rfl rfl) ?_
                          refine ta_skip (i := 21) rfl (by kernel_rfl) (wants_undef rfl rfl rfl) ?_
                          refine ta_skip (i := 22) rfl (by kernel_rfl) (wants_undef rfl rfl rfl) ?_
                          refine ta_skip (i := 23) rfl (by kernel_rfl) (wants_undef rfl rfl rfl) ?_
                          refine ta_skip (i := 24) rfl (by kernel_rfl) (wants_undef rfl rfl rfl) ?_
                          refine ta_skip (i := 25) rfl (by kernel_rfl) (wants_undef rfl rfl rfl) ?_
                          refine ta_skip (i := 26) rfl (by kernel_rfl) (wants_undef rfl rfl rfl) ?_
                          refine ta_skip (i := 27) rfl (by kernel_rfl) (wants_undef rfl rfl rfl) ?_
                          refine ta_skip (i := 28) rfl (by kernel_rfl) (wants_undef rfl rfl rfl) ?_
                          refine ta_skip (i := 29) rfl (by kernel_rfl) (wants_f rfl rfl rfl rfl) ?_
                          refine ta_float (i := 30) rfl (by kernel_rfl) (wants_none rfl) (yq_of (y_pickf (fe_t rfl) fe_c)) ?_
                          refine ta_done (by kernel_rfl) ?_
                          refine tx_then ?_
                          refine tr_condf (fe_t rfl) ?_
                          refine tr_skip ?_
                          refine tx_in ?_
                          refine tx_then ?_
                          refine tr_region ?_
                          refine tl_step rfl (oj_val (y_inc (fe_t rfl) fe_c (by omega)) ?_)
                          refine tl_step rfl (oj_val (y_move (fe_t rfl)) ?_)
                          refine tl_nil ?_
                          apply tx_back2 (k + 1) (b)
                          · exact (cov_cons (by first | rfl | exact v_int (by omega) | exact v_bool (by simp [*])) (cov_cons (by first | rfl | exact v_int (by omega) | exact v_bool (by simp [*])) (cov_nil)))
                          · repeat (first | exact over_nil | refine over_put rfl ?_ | refine over_drop rfl ?_)
                          · exact fun w h => h.pick [1, 2] _ rfl (by decide)
                          · first
                              | exact ⟨⟨by omega, hb.take hsu ⟨by omega, by omega, by omega⟩ (by omega)⟩, by omega⟩
                              | exact ⟨⟨by omega, hb.skip hsu (fun he => by have h1 := he.1; have h2 := he.2; omega)⟩, by omega⟩
                              | exact ⟨⟨by omega, hb.keep hsu (by omega) (by omega)⟩, by omega⟩
                  · try (exfalso; omega)
                    all_goals
                      refine ta_skip (i := 12) rfl (by kernel_rfl) (wants_f rfl rfl rfl rfl) ?_
                      refine ta_skip (i := 13) rfl (by kernel_rfl) (wants_f rfl rfl rfl rfl) ?_
                      refine ta_skip (i := 14) rfl (by kernel_rfl) (wants_f rfl rfl rfl rfl) ?_
                      refine ta_skip (i := 15) rfl (by kernel_rfl) (wants_f rfl rfl rfl rfl) ?_
                      refine ta_float (i := 16) rfl (by kernel_rfl) (wants_none rfl) (yq_of (y_pickf (fe_t rfl) fe_c)) ?_
                      refine ta_float (i := 17) rfl (by kernel_rfl) (wants_none rfl) (yq_of (y_move (fe_t rfl))) ?_
                      refine ta_skip (i := 18) rfl (by kernel_rfl) (wants_f rfl rfl rfl rfl) ?_
                      refine ta_skip (i := 19) rfl (by kernel_rfl) (wants_f rfl rfl rfl rfl) ?_
                      refine ta_skip (i := 20) rfl (by kernel_rfl) (wants_f rfl rfl rfl rfl) ?_
                      refine ta_skip (i := 21) rfl (by kernel_rfl) (wants_undef rfl rfl rfl) ?_
                      refine ta_skip (i := 22) rfl (by kernel_rfl) (wants_undef rfl rfl rfl) ?_
                      refine ta_skip (i := 23) rfl (by kernel_rfl) (wants_undef rfl rfl rfl) ?_
                      refine ta_skip (i := 24) rfl (by kernel_rfl) (wants_undef rfl rfl rfl) ?_
                      refine ta_skip (i := 25) rfl (by kernel_rfl) (wants_undef rfl rfl rfl) ?_
                      refine ta_skip (i := 26) rfl (by kernel_rfl) (wants_undef rfl rfl rfl) ?_
                      refine ta_skip (i := 27) rfl (by kernel_rfl) (wants_undef rfl rfl rfl) ?_
                      refine ta_skip (i := 28) rfl (by kernel_rfl) (wants_undef rfl rfl rfl) ?_
                      refine ta_skip (i := 29) rfl (by kernel_rfl) (wants_f rfl rfl rfl rfl) ?_
                      refine ta_float (i := 30) rfl (by kernel_rfl) (wants_none rfl) (yq_of (y_pickf (fe_t rfl) fe_c)) ?_
                      refine ta_done (by kernel_rfl) ?_
                      refine tx_then ?_
                      refine tr_condf (fe_t rfl) ?_
                      refine tr_skip ?_
                      refine tx_in ?_
                      refine tx_then ?_
                      refine tr_region ?_
                      refine tl_step rfl (oj_val (y_inc (fe_t rfl) fe_c (by omega)) ?_)
                      refine tl_step rfl (oj_val (y_move (fe_t rfl)) ?_)
                      refine tl_nil ?_
                      apply tx_back2 (k + 1) (b)
                      · exact (cov_cons (by first | rfl | exact v_int (by omega) | exact v_bool (by simp [*])) (cov_cons (by first | rfl | exact v_int (by omega) | exact v_bool (by simp [*])) (cov_nil)))
                      · repeat (first | exact over_nil | refine over_put rfl ?_ | refine over_drop rfl ?_)
                      · exact fun w h => h.pick [1, 2] _ rfl (by decide)
                      · first
                          | exact ⟨⟨by omega, hb.take hsu ⟨by omega, by omega, by omega⟩ (by omega)⟩, by omega⟩
                          | exact ⟨⟨by omega, hb.skip hsu (fun he => by have h1 := he.1; have h2 := he.2; omega)⟩, by omega⟩
                          | exact ⟨⟨by omega, hb.keep hsu (by omega) (by omega)⟩, by omega⟩
              · try (exfalso; omega)
                all_goals
                  refine ta_skip (i := 6) rfl (by kernel_rfl) (wants_f rfl rfl rfl rfl) ?_
                  refine ta_skip (i := 7) rfl (by kernel_rfl) (wants_f rfl rfl rfl rfl) ?_
                  refine ta_skip (i := 8) rfl (by kernel_rfl) (wants_f rfl rfl rfl rfl) ?_
                  refine ta_skip (i := 9) rfl (by kernel_rfl) (wants_f rfl rfl rfl rfl) ?_
                  refine ta_float (i := 10) rfl (by kernel_rfl) (wants_none rfl) (yq_of (y_pickf (fe_t rfl) fe_c)) ?_
                  refine ta_float (i := 11) rfl (by kernel_rfl) (wants_none rfl) (yq_of (y_move (fe_t rfl))) ?_
                  refine ta_skip (i := 12) rfl (by kernel_rfl) (wants_f rfl rfl rfl rfl) ?_
                  refine ta_skip (i := 13) rfl (by kernel_rfl) (wants_f rfl rfl rfl rfl) ?_
                  refine ta_skip (i := 14) rfl (by kernel_rfl) (wants_f rfl rfl rfl rfl) ?_
                  refine ta_skip (i := 15) rfl (by kernel_rfl) (wants_f rfl rfl rfl rfl) ?_
                  refine ta_float (i := 16) rfl (by kernel_rfl) (wants_none rfl) (yq_of (y_pickf (fe_t rfl) fe_c)) ?_
                  refine ta_float (i := 17) rfl (by kernel_rfl) (wants_none rfl) (yq_of (y_move (fe_t rfl))) ?_
                  refine ta_skip (i := 18) rfl (by kernel_rfl) (wants_f rfl rfl rfl rfl) ?_
                  refine ta_skip (i := 19) rfl (by kernel_rfl) (wants_f rfl rfl rfl rfl) ?_
                  refine ta_skip (i := 20) rfl (by kernel_rfl) (wants_f rfl rfl rfl rfl) ?_
                  refine ta_skip (i := 21) rfl (by kernel_rfl) (wants_undef rfl rfl rfl) ?_
                  refine ta_skip (i := 22) rfl (by kernel_rfl) (wants_undef rfl rfl rfl) ?_
                  refine ta_skip (i := 23) rfl (by kernel_rfl) (wants_undef rfl rfl rfl) ?_
                  refine ta_skip (i := 24) rfl (by kernel_rfl) (wants_undef rfl rfl rfl) ?_
                  refine ta_skip (i := 25) rfl (by kernel_rfl) (wants_undef rfl rfl rfl) ?_
                  refine ta_skip (i := 26) rfl (by kernel_rfl) (wants_undef rfl rfl rfl) ?_
                  refine ta_skip (i := 27) rfl (by kernel_rfl) (wants_undef rfl rfl rfl) ?_
                  refine ta_skip (i := 28) rfl (by kernel_rfl) (wants_undef rfl rfl rfl) ?_
                  refine ta_skip (i := 29) rfl (by kernel_rfl) (wants_f rfl rfl rfl rfl) ?_
                  refine ta_float (i := 30) rfl (by kernel_rfl) (wants_none rfl) (yq_of (y_pickf (fe_t rfl) fe_c)) ?_
                  refine ta_done (by kernel_rfl) ?_
                  refine tx_then ?_
                  refine tr_condf (fe_t rfl) ?_
                  refine tr_skip ?_
                  refine tx_in ?_
                  refine tx_then ?_
                  refine tr_region ?_
                  refine tl_step rfl (oj_val (y_inc (fe_t rfl) fe_c (by omega)) ?_)
                  refine tl_step rfl (oj_val (y_move (fe_t rfl)) ?_)
                  refine tl_nil ?_
                  apply tx_back2 (k + 1) (b)
                  · exact (cov_cons (by first | rfl | exact v_int (by omega) | exact v_bool (by simp [*])) (cov_cons (by first | rfl | exact v_int (by omega) | exact v_bool (by simp [*])) (cov_nil)))
                  · repeat (first | exact over_nil | refine over_put rfl ?_ | refine over_drop rfl ?_)
                  · exact fun w h => h.pick [1, 2] _ rfl (by decide)
                  · first
                      | exact ⟨⟨by omega, hb.take hsu ⟨by omega, by omega, by omega⟩ (by omega)⟩, by omega⟩
                      | exact ⟨⟨by omega, hb.skip hsu (fun he => by have h1 := he.1; have h2 := he.2; omega)⟩, by omega⟩
                      | exact ⟨⟨by omega, hb.keep hsu (by omega) (by omega)⟩, by omega⟩
          · try (exfalso; omega)
            all_goals
              refine tr_exit ?_
              refine tx_then_exit ?_
              refine tx_then_exit ?_
              refine tx_in_exit ?_
              refine tx_then ?_
              refine tr_seq ?_
              obtain rfl : n = k := by omega
              have hb0 := best_lt hb
              refine tr_region ?_
              refine tl_step rfl (oj_val (y_move (fe_t rfl)) ?_)
              refine tl_step rfl (oj_val (y_geq (fe_t rfl) fe_c) ?_)
              refine tl_nil ?_
              refine tx_then ?_
              refine tr_condp (fe_t rfl) (fun hq17 => ?_) (fun hq18 => ?_)
              · try (exfalso; omega)
                all_goals
                  refine tr_region ?_
                  refine tl_step rfl (oj_val (y_move (fe_t rfl)) ?_)
                  refine tl_step rfl (oj_val (y_move (fe_t rfl)) ?_)
                  refine tl_step rfl (oj_val (y_move (fe_t rfl)) ?_)
                  refine tl_step rfl (oj_val (y_indexI Try.underlying31 Try.sizeOf3 (fe_t rfl) (fe_t rfl) (rdl_vec 0 rfl) (by omega) (by decide) (by omega) (by omega) (Nat.mul_one _)) ?_)
                  refine tl_step rfl (oj_storeE1 (i := 0) Try.sizeOf3 (fe_t rfl) (fe_t rfl) rfl rfl rfl (by omega) (?_))
                  refine tl_nil ?_
                  refine tx_in ?_
                  refine tx_then ?_
                  refine tr_region ?_
                  refine tl_step rfl (oj_val (y_inc (fe_t rfl) fe_c (by omega)) ?_)
                  refine tl_step rfl (oj_val (y_move (fe_t rfl)) ?_)
                  refine tl_nil ?_
                  apply tx_back3 (t + 1) (ds.set b.toNat (t : Int)) (_)
                  · exact (cov_cons (by first | rfl | exact v_int (by omega) | exact v_bool (by simp [*])) (cov_nil))
                  · repeat (first | exact over_nil | refine over_put rfl ?_ | refine over_drop rfl ?_)
                  · exact fun w h => h.pick [0, 1] _ rfl (by decide)
                  · first
                      | exact ⟨⟨by omega, run_set hrun hb (by omega), by rw [hvx, cI, cI, List.map_set]⟩, by omega⟩
                      | exact ⟨⟨by omega, run_neg hrun hb (by omega), hvx⟩, by omega⟩
              · try (exfalso; omega)
                all_goals
                  refine tr_skip ?_
                  refine tx_in ?_
                  refine tx_then ?_
                  refine tr_region ?_
                  refine tl_step rfl (oj_val (y_inc (fe_t rfl) fe_c (by omega)) ?_)
                  refine tl_step rfl (oj_val (y_move (fe_t rfl)) ?_)
                  refine tl_nil ?_
                  apply tx_back3 (t + 1) (ds) (_)
                  · exact (cov_cons (by first | rfl | exact v_int (by omega) | exact v_bool (by simp [*])) (cov_nil))
                  · repeat (first | exact over_nil | refine over_put rfl ?_ | refine over_drop rfl ?_)
                  · exact fun w h => h.pick [0, 1] _ rfl (by decide)
                  · first
                      | exact ⟨⟨by omega, run_set hrun hb (by omega), by rw [hvx, cI, cI, List.map_set]⟩, by omega⟩
                      | exact ⟨⟨by omega, run_neg hrun hb (by omega), hvx⟩, by omega⟩
      · try (exfalso; omega)
        all_goals
          refine tr_exit ?_
          refine tx_then_exit ?_
          refine tx_then_exit ?_
          refine tx_in_exit ?_
          refine tx_then ?_
          refine tr_seq ?_
          refine tr_region ?_
          refine tl_step rfl (oj_val (y_move (fe_t rfl)) ?_)
          refine tl_step rfl (oj_val (y_assign (fe_t rfl)) ?_)
          refine tl_step rfl (oj_val (y_assign fe_c) ?_)
          refine tl_nil ?_
          refine tx_then ?_
          refine tr_ret ?_
          refine tx_ret (res2 Try.results49 (rok_t rfl) (rok_t rfl)) (fun w' hS => ?_)
          obtain rfl : t = 1000 := by omega
          exact ⟨(g0, ds), hrun, rfl, by rw [← hvx]; exact hS.pick [0] _ rfl (by decide)⟩

end Go.Proofs.Ytdfjeoifeladfaa.Edf
