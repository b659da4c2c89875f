/- Walk: the reference ERead. -/
import Derived.Test.YtpknjfeiiaopgaaHdX
namespace Go.Proofs.Ytpknjfeiiaopgaa.Head
open Go.RowKit Go.Proofs.Ytpknjfeiiaopgaa.E

set_option maxRecDepth 100000 in
set_option maxHeartbeats 8000000 in
theorem ereadE (A : Option Addr) (n c : Nat) (l : List Int) (w : World) (hr : Rd w A (cB l)) (hn : l.length = n) (hz : ∀ z ∈ l, 0 ≤ z ∧ z ≤ 255) (hm : n ≤ 140737488355328) (hc : n ≤ c) :
    Calls Try.prog 19 #[.slice A n c] w fun e w' => e = .returned (.tuple #[.agg #[.int .u8 (rd l).1.s0, .int .u8 (rd l).1.s1, .int .u8 (rd l).1.s2, .int .u8 (rd l).1.s3, .int .u8 (rd l).1.d0, .int .u8 (rd l).1.d1, .int .u8 (rd l).1.d2, .int .u8 (rd l).1.d3, (.int .i64 ((rd l).1.pr)), (.int .i64 ((rd l).1.sp)), (.int .i64 ((rd l).1.dp)), (.int .i64 ((rd l).1.ln)), (.int .i64 ((rd l).1.mr))], (.int .i64 ((rd l).2))]) ∧ St w w' [] := by
  have hb0 := at_by hz 0
  have hb1 := at_by hz 1
  have hb2 := at_by hz 2
  have hb3 := at_by hz 3
  have hb6 := at_by hz 6
  have hb7 := at_by hz 7
  have hb9 := at_by hz 9
  have hhl := hl_eq hb0
  have ht2 : two l 2 = at_ l 2 * 256 + at_ l 3 := rfl
  have ht6 : two l 6 = at_ l 6 * 256 + at_ l 7 := rfl
  refine calls_tr Try.func19 Try.ntmps19 rfl rfl (St.refl _) ?_
  refine tr_seq ?_
  refine tr_region ?_
  refine tl_step rfl (oj_alloc Try.zeroValue38 (fun ra => ?_))
  refine tl_step rfl (oj_val (y_assign fe_c) ?_)
  refine tl_nil ?_
  refine tx_then ?_
  refine tr_seq ?_
  refine tr_region ?_
  refine tl_step rfl (oj_val (y_build (is := []) (vs := []) (cs := [.int .u8 0, .int .u8 0, .int .u8 0, .int .u8 0, .int .u8 0, .int .u8 0, .int .u8 0, .int .u8 0, .int .i64 0, .int .i64 0, .int .i64 0, .int .i64 0, .int .i64 0]) rfl fel_nil (by kernel_rfl)) ?_)
  refine tl_step rfl (oj_alloc Try.zeroValue38 (fun nb => ?_))
  refine tl_step rfl (oj_storeW 0 Try.sizeOf38 (fe_t rfl) (fe_t rfl) rfl rfl rfl rfl rfl (?_))
  refine tl_nil ?_
  refine tx_then ?_
  refine tr_seq ?_
  refine tr_seq ?_
  refine tr_region ?_
  refine tl_step rfl (oj_val (y_move (fe_t rfl)) ?_)
  refine tl_step rfl (oj_val (y_len Try.underlying39 (fe_t rfl)) ?_)
  refine tl_step rfl (oj_val (y_lss (fe_t rfl) fe_c) ?_)
  refine tl_nil ?_
  refine tx_then ?_
  refine tr_condp (fe_t rfl) (fun hq1 => ?_) (fun hq2 => ?_)
  · try (exfalso; omega)
    all_goals
      refine tr_seq ?_
      refine tr_region ?_
      refine tl_step rfl (oj_val (y_ldbA 0 Try.isAgg38 Try.sizeOf38 (fe_t rfl) rfl rfl rfl) ?_)
      refine tl_step rfl (oj_storeW 1 Try.sizeOf38 (fe_t rfl) (fe_t rfl) rfl rfl rfl rfl rfl (?_))
      refine tl_step rfl (oj_val (y_assign fe_c) ?_)
      refine tl_nil ?_
      refine tx_then ?_
      refine tr_ret ?_
      refine tx_then_ret ?_
      refine tx_ret (res2 Try.results19 (rok_b 1 Try.isAgg38 Try.sizeOf38 rfl rfl rfl) (rok_t rfl)) (fun w' hS => ?_)
      have hw : rd l = _ := rd_a (by omega)
      exact ⟨by rw [hw]; rfl, hS.pick [] _ rfl (by decide)⟩
  · try (exfalso; omega)
    all_goals
      refine tr_skip ?_
      refine tx_then ?_
      refine tr_seq ?_
      refine tr_region ?_
      refine tl_step rfl (oj_val (y_move (fe_t rfl)) ?_)
      refine tl_step rfl (oj_val (y_indexI (m := 0) Try.underlying39 Try.sizeOf5 (fe_t rfl) fe_c (rdl_out hr) (by rw [cB_len]; omega) (by decide) (by decide) (by omega) rfl) ?_)
      refine tl_step rfl (oj_val (y_ld Try.isAgg5 (fe_t rfl) (rdl_out hr) (getB (by omega))) ?_)
      refine tl_step rfl (oj_val (y_convi Try.underlying5 Try.underlying3 (fe_t rfl) (IntWalk.i64_in _ (by omega))) ?_)
      refine tl_step rfl (oj_val (y_rem (fe_t rfl) fe_c (by omega)) ?_)
      refine tl_step rfl (oj_val (y_mulq (c := ((hl l : Nat) : Int)) (fe_t rfl) fe_c (by omega) (by omega)) ?_)
      refine tl_step rfl (oj_val (y_assign (fe_t rfl)) ?_)
      refine tl_nil ?_
      refine tx_then ?_
      refine tr_seq ?_
      refine tr_seq ?_
      refine tr_region ?_
      refine tl_step rfl (oj_val (y_move (fe_t rfl)) ?_)
      refine tl_step rfl (oj_val (y_indexI (m := 0) Try.underlying39 Try.sizeOf5 (fe_t rfl) fe_c (rdl_out hr) (by rw [cB_len]; omega) (by decide) (by decide) (by omega) rfl) ?_)
      refine tl_step rfl (oj_val (y_ld Try.isAgg5 (fe_t rfl) (rdl_out hr) (getB (by omega))) ?_)
      refine tl_step rfl (oj_val (y_convi Try.underlying5 Try.underlying3 (fe_t rfl) (IntWalk.i64_in _ (by omega))) ?_)
      refine tl_step rfl (oj_val (y_quo (fe_t rfl) fe_c (by omega)) ?_)
      refine tl_step rfl (oj_val (y_neq (fe_t rfl) fe_c) ?_)
      refine tl_step rfl (oj_val (y_move (fe_t rfl)) ?_)
      refine tl_splitp (d := 25) rfl (fun hq3 => ?_) (fun hq4 => ?_)
      · try (exfalso; omega)
        all_goals
          refine tl_skip rfl rfl rfl rfl ?_
          refine tl_skip rfl rfl rfl rfl ?_
          refine tl_step rfl (oj_val (y_pickt (fe_t rfl) fe_c) ?_)
          refine tl_nil ?_
          refine tx_then ?_
          refine tr_condt (fe_t rfl) ?_
          refine tr_seq ?_
          refine tr_region ?_
          refine tl_step rfl (oj_val (y_ldbA 0 Try.isAgg38 Try.sizeOf38 (fe_t rfl) rfl rfl rfl) ?_)
          refine tl_step rfl (oj_storeW 1 Try.sizeOf38 (fe_t rfl) (fe_t rfl) rfl rfl rfl rfl rfl (?_))
          refine tl_step rfl (oj_val (y_assign fe_c) ?_)
          refine tl_nil ?_
          refine tx_then ?_
          refine tr_ret ?_
          refine tx_then_ret ?_
          refine tx_ret (res2 Try.results19 (rok_b 1 Try.isAgg38 Try.sizeOf38 rfl rfl rfl) (rok_t rfl)) (fun w' hS => ?_)
          have hw : rd l = _ := rd_b (by omega) (by omega)
          exact ⟨by rw [hw]; rfl, hS.pick [] _ rfl (by decide)⟩
      · try (exfalso; omega)
        all_goals
          refine tl_want rfl rfl rfl (oj_val (y_move (fe_t rfl)) ?_)
          refine tl_want rfl rfl rfl (oj_val (y_lss (fe_t rfl) fe_c) ?_)
          refine tl_step rfl (oj_val (y_pickf (fe_t rfl) (fe_t rfl)) ?_)
          refine tl_nil ?_
          refine tx_then ?_
          refine tr_condp (fe_t rfl) (fun hq5 => ?_) (fun hq6 => ?_)
          · try (exfalso; omega)
            all_goals
              refine tr_seq ?_
              refine tr_region ?_
              refine tl_step rfl (oj_val (y_ldbA 0 Try.isAgg38 Try.sizeOf38 (fe_t rfl) rfl rfl rfl) ?_)
              refine tl_step rfl (oj_storeW 1 Try.sizeOf38 (fe_t rfl) (fe_t rfl) rfl rfl rfl rfl rfl (?_))
              refine tl_step rfl (oj_val (y_assign fe_c) ?_)
              refine tl_nil ?_
              refine tx_then ?_
              refine tr_ret ?_
              refine tx_then_ret ?_
              refine tx_ret (res2 Try.results19 (rok_b 1 Try.isAgg38 Try.sizeOf38 rfl rfl rfl) (rok_t rfl)) (fun w' hS => ?_)
              have hw : rd l = _ := rd_b (by omega) (by omega)
              exact ⟨by rw [hw]; rfl, hS.pick [] _ rfl (by decide)⟩
          · try (exfalso; omega)
            all_goals
              refine tr_skip ?_
              refine tx_then ?_
              refine tr_seq ?_
              refine tr_draw (sel _ [0, 1]) (fun w h => h.sel _ rfl (by decide)) rfl ?_
              refine ta_float (i := 0) rfl (by kernel_rfl) (wants_none rfl) (yq_of (y_move (fe_t rfl))) ?_
              refine ta_float (i := 1) rfl (by kernel_rfl) (wants_none rfl) (yq_of (y_indexI (m := 2) Try.underlying39 Try.sizeOf5 (fe_t rfl) fe_c (rdl_out hr) (by rw [cB_len]; omega) (by decide) (by decide) (by omega) rfl)) ?_
              refine ta_float (i := 2) rfl (by kernel_rfl) (wants_none rfl) (yq_of (y_ld Try.isAgg5 (fe_t rfl) (rdl_out hr) (getB (by omega)))) ?_
              refine ta_float (i := 3) rfl (by kernel_rfl) (wants_none rfl) (yq_of (y_convi Try.underlying5 Try.underlying3 (fe_t rfl) (IntWalk.i64_in _ (by omega)))) ?_
              refine ta_float (i := 4) rfl (by kernel_rfl) (wants_none rfl) (yq_of (y_mul (fe_t rfl) fe_c (by omega))) ?_
              refine ta_float (i := 5) rfl (by kernel_rfl) (wants_none rfl) (yq_of (y_move (fe_t rfl))) ?_
              refine ta_float (i := 6) rfl (by kernel_rfl) (wants_none rfl) (yq_of (y_indexI (m := 3) Try.underlying39 Try.sizeOf5 (fe_t rfl) fe_c (rdl_out hr) (by rw [cB_len]; omega) (by decide) (by decide) (by omega) rfl)) ?_
              refine ta_float (i := 7) rfl (by kernel_rfl) (wants_none rfl) (yq_of (y_ld Try.isAgg5 (fe_t rfl) (rdl_out hr) (getB (by omega)))) ?_
              refine ta_float (i := 8) rfl (by kernel_rfl) (wants_none rfl) (yq_of (y_convi Try.underlying5 Try.underlying3 (fe_t rfl) (IntWalk.i64_in _ (by omega)))) ?_
              refine ta_float (i := 9) rfl (by kernel_rfl) (wants_none rfl) (yq_of (y_add (fe_t rfl) (fe_t rfl) (by omega))) ?_
              refine ta_float (i := 10) rfl (by kernel_rfl) (wants_none rfl) (yq_of (y_assign (fe_t rfl))) ?_
              refine ta_done (by kernel_rfl) ?_
              refine tx_then ?_
              refine tr_seq ?_
              refine tr_seq ?_
              refine tr_region ?_
              refine tl_step rfl (oj_val (y_move (fe_t rfl)) ?_)
              refine tl_step rfl (oj_val (y_len Try.underlying39 (fe_t rfl)) ?_)
              refine tl_step rfl (oj_val (y_move (fe_t rfl)) ?_)
              refine tl_step rfl (oj_val (y_move (fe_t rfl)) ?_)
              refine tl_step rfl (oj_val (y_max (fe_t rfl) (fe_t rfl)) ?_)
              refine tl_step rfl (oj_val (y_lss (fe_t rfl) (fe_t rfl)) ?_)
              refine tl_nil ?_
              refine tx_then ?_
              refine tr_condp (fe_t rfl) (fun hq7 => ?_) (fun hq8 => ?_)
              · try (exfalso; omega)
                all_goals
                  refine tr_seq ?_
                  refine tr_region ?_
                  refine tl_step rfl (oj_val (y_ldbA 0 Try.isAgg38 Try.sizeOf38 (fe_t rfl) rfl rfl rfl) ?_)
                  refine tl_step rfl (oj_storeW 1 Try.sizeOf38 (fe_t rfl) (fe_t rfl) rfl rfl rfl rfl rfl (?_))
                  refine tl_step rfl (oj_val (y_assign fe_c) ?_)
                  refine tl_nil ?_
                  refine tx_then ?_
                  refine tr_ret ?_
                  refine tx_then_ret ?_
                  refine tx_ret (res2 Try.results19 (rok_b 1 Try.isAgg38 Try.sizeOf38 rfl rfl rfl) (rok_t rfl)) (fun w' hS => ?_)
                  have hw : rd l = _ := rd_c (by omega) (by omega) (by omega)
                  exact ⟨by rw [hw]; rfl, hS.pick [] _ rfl (by decide)⟩
              · try (exfalso; omega)
                all_goals
                  refine tr_skip ?_
                  refine tx_then ?_
                  refine tr_seq ?_
                  refine tr_seq ?_
                  refine tr_region ?_
                  refine tl_step rfl (oj_val (y_move (fe_t rfl)) ?_)
                  refine tl_step rfl (oj_val (y_move (fe_t rfl)) ?_)
                  refine tl_step rfl (oj_val (y_lss (fe_t rfl) (fe_t rfl)) ?_)
                  refine tl_nil ?_
                  refine tx_then ?_
                  refine tr_condp (fe_t rfl) (fun hq9 => ?_) (fun hq10 => ?_)
                  · try (exfalso; omega)
                    all_goals
                      refine tr_seq ?_
                      refine tr_region ?_
                      refine tl_step rfl (oj_val (y_ldbA 0 Try.isAgg38 Try.sizeOf38 (fe_t rfl) rfl rfl rfl) ?_)
                      refine tl_step rfl (oj_storeW 1 Try.sizeOf38 (fe_t rfl) (fe_t rfl) rfl rfl rfl rfl rfl (?_))
                      refine tl_step rfl (oj_val (y_assign fe_c) ?_)
                      refine tl_nil ?_
                      refine tx_then ?_
                      refine tr_ret ?_
                      refine tx_then_ret ?_
                      refine tx_ret (res2 Try.results19 (rok_b 1 Try.isAgg38 Try.sizeOf38 rfl rfl rfl) (rok_t rfl)) (fun w' hS => ?_)
                      have hw : rd l = _ := rd_d (by omega) (by omega) (by omega) (by omega)
                      exact ⟨by rw [hw]; rfl, hS.pick [] _ rfl (by decide)⟩
                  · try (exfalso; omega)
                    all_goals
                      refine tr_skip ?_
                      refine tx_then ?_
                      refine tr_seq ?_
                      refine tr_seq ?_
                      refine tr_region ?_
                      refine tl_step rfl (oj_val (y_move (fe_t rfl)) ?_)
                      refine tl_step rfl (oj_val (y_move (fe_t rfl)) ?_)
                      refine tl_step rfl (oj_val (y_cutH Try.underlying39 Try.sizeOf5 (fe_t rfl) (fe_t rfl) (by omega)) ?_)
                      refine tl_step rfl (oj_callv Try.call56 fe_f (fel_cons (fe_t rfl) fel_nil) (fun w' hS => dofE _ _ _ (l.take (hl l)) w' ((rdl_pre (rdl_out hr) (cB_cut l (hl l))) w' hS) rfl (by rw [List.length_take]; omega) (fun z hz9 => hz z (List.mem_of_mem_take hz9)) (by omega)) ?_)
                      refine tl_step rfl (oj_val (y_neq (fe_t rfl) fe_c) ?_)
                      refine tl_nil ?_
                      refine tx_then ?_
                      refine tr_condp (fe_t rfl) (fun hq11 => ?_) (fun hq12 => ?_)
                      · try (exfalso; omega)
                        all_goals
                          refine tr_seq ?_
                          refine tr_region ?_
                          refine tl_step rfl (oj_val (y_ldbA 0 Try.isAgg38 Try.sizeOf38 (fe_t rfl) rfl rfl rfl) ?_)
                          refine tl_step rfl (oj_storeW 1 Try.sizeOf38 (fe_t rfl) (fe_t rfl) rfl rfl rfl rfl rfl (?_))
                          refine tl_step rfl (oj_val (y_assign fe_c) ?_)
                          refine tl_nil ?_
                          refine tx_then ?_
                          refine tr_ret ?_
                          refine tx_then_ret ?_
                          refine tx_ret (res2 Try.results19 (rok_b 1 Try.isAgg38 Try.sizeOf38 rfl rfl rfl) (rok_t rfl)) (fun w' hS => ?_)
                          have hw : rd l = _ := rd_e (by omega) (by omega) (by omega) (by omega) (by omega)
                          exact ⟨by rw [hw]; rfl, hS.pick [] _ rfl (by decide)⟩
                      · try (exfalso; omega)
                        all_goals
                          refine tr_skip ?_
                          refine tx_then ?_
                          refine tr_seq ?_
                          refine tr_draw (sel _ [0, 1]) (fun w h => h.sel _ rfl (by decide)) rfl ?_
                          refine ta_float (i := 0) rfl (by kernel_rfl) (wants_none rfl) (yq_of (y_move (fe_t rfl))) ?_
                          refine ta_float (i := 1) rfl (by kernel_rfl) (wants_none rfl) (yq_of (y_cutB (l := 12) (m := 16) Try.underlying39 Try.sizeOf5 (fe_t rfl) fe_c fe_c (by decide) (by omega))) ?_
                          refine ta_float (i := 2) rfl (by kernel_rfl) (wants_none rfl) (yq_of (y_toArr (n := 4) Try.underlying24 (fe_t rfl) (by decide))) ?_
                          refine ta_float (i := 3) rfl (by kernel_rfl) (wants_none rfl) (yq_of (y_ldPA (cs := [.int .u8 (at_ l 12), .int .u8 (at_ l 13), .int .u8 (at_ l 14), .int .u8 (at_ l 15)]) Try.isAgg24 Try.sizeOf24 (fe_t rfl) (rdl_out (rd_sub (i := 12) hr hn hc (by omega))) rfl (by decide) (fun i u hu => hu))) ?_
                          refine ta_float (i := 4) rfl (by kernel_rfl) (wants_none rfl) (yq_of (y_move (fe_t rfl))) ?_
                          refine ta_float (i := 5) rfl (by kernel_rfl) (wants_none rfl) (yq_of (y_cutB (l := 16) (m := 20) Try.underlying39 Try.sizeOf5 (fe_t rfl) fe_c fe_c (by decide) (by omega))) ?_
                          refine ta_float (i := 6) rfl (by kernel_rfl) (wants_none rfl) (yq_of (y_toArr (n := 4) Try.underlying24 (fe_t rfl) (by decide))) ?_
                          refine ta_float (i := 7) rfl (by kernel_rfl) (wants_none rfl) (yq_of (y_ldPA (cs := [.int .u8 (at_ l 16), .int .u8 (at_ l 17), .int .u8 (at_ l 18), .int .u8 (at_ l 19)]) Try.isAgg24 Try.sizeOf24 (fe_t rfl) (rdl_out (rd_sub (i := 16) hr hn hc (by omega))) rfl (by decide) (fun i u hu => hu))) ?_
                          refine ta_float (i := 8) rfl (by kernel_rfl) (wants_none rfl) (yq_of (y_move (fe_t rfl))) ?_
                          refine ta_float (i := 9) rfl (by kernel_rfl) (wants_none rfl) (yq_of (y_indexI (m := 9) Try.underlying39 Try.sizeOf5 (fe_t rfl) fe_c (rdl_out hr) (by rw [cB_len]; omega) (by decide) (by decide) (by omega) rfl)) ?_
                          refine ta_float (i := 10) rfl (by kernel_rfl) (wants_none rfl) (yq_of (y_ld Try.isAgg5 (fe_t rfl) (rdl_out hr) (getB (by omega)))) ?_
                          refine ta_float (i := 11) rfl (by kernel_rfl) (wants_none rfl) (yq_of (y_convi Try.underlying5 Try.underlying3 (fe_t rfl) (IntWalk.i64_in _ (by omega)))) ?_
                          refine ta_float (i := 12) rfl (by kernel_rfl) (wants_none rfl) (yq_of (y_move (fe_t rfl))) ?_
                          refine ta_float (i := 13) rfl (by kernel_rfl) (wants_none rfl) (yq_of (y_indexI (m := 1) Try.underlying39 Try.sizeOf5 (fe_t rfl) fe_c (rdl_out hr) (by rw [cB_len]; omega) (by decide) (by decide) (by omega) rfl)) ?_
                          refine ta_float (i := 14) rfl (by kernel_rfl) (wants_none rfl) (yq_of (y_ld Try.isAgg5 (fe_t rfl) (rdl_out hr) (getB (by omega)))) ?_
                          refine ta_float (i := 15) rfl (by kernel_rfl) (wants_none rfl) (yq_of (y_convi Try.underlying5 Try.underlying3 (fe_t rfl) (IntWalk.i64_in _ (by omega)))) ?_
                          refine ta_float (i := 16) rfl (by kernel_rfl) (wants_none rfl) (yq_of (y_quo (fe_t rfl) fe_c (by omega))) ?_
                          refine ta_float (i := 17) rfl (by kernel_rfl) (wants_none rfl) (yq_of (y_move (fe_t rfl))) ?_
                          refine ta_float (i := 18) rfl (by kernel_rfl) (wants_none rfl) (yq_of (y_build (is := [0, 1, 2, 6, 5]) (vs := [.agg #[.int .u8 (at_ l 12), .int .u8 (at_ l 13), .int .u8 (at_ l 14), .int .u8 (at_ l 15)], .agg #[.int .u8 (at_ l 16), .int .u8 (at_ l 17), .int .u8 (at_ l 18), .int .u8 (at_ l 19)], (.int .i64 (at_ l 9)), (.int .i64 (at_ l 1 / 4)), (.int .i64 (two l 2))]) (cs := [.int .u8 (at_ l 12), .int .u8 (at_ l 13), .int .u8 (at_ l 14), .int .u8 (at_ l 15), .int .u8 (at_ l 16), .int .u8 (at_ l 17), .int .u8 (at_ l 18), .int .u8 (at_ l 19), (.int .i64 (at_ l 9)), (.int .i64 0), (.int .i64 0), (.int .i64 (two l 2)), (.int .i64 (at_ l 1 / 4))]) rfl (fel_cons (fe_t rfl) (fel_cons (fe_t rfl) (fel_cons (fe_t rfl) (fel_cons (fe_t rfl) (fel_cons (fe_t rfl) fel_nil))))) (by kernel_rfl))) ?_
                          refine ta_one (i := 19) rfl (by kernel_rfl) (wants_none rfl) (oj_alloc Try.zeroValue38 (fun hb => ⟨fun w h => h.pick [1, 2] _ rfl (by decide), ?_⟩))
                          refine ta_one (i := 20) rfl (by kernel_rfl) (wants_none rfl) (oj_storeW 0 Try.sizeOf38 (fe_t rfl) (fe_t rfl) rfl rfl rfl rfl rfl (⟨fun w h => h.pick [1, 2] _ rfl (by decide), ?_⟩))
                          refine ta_done (by kernel_rfl) ?_
                          refine tx_then ?_
                          refine tr_seq ?_
                          refine tr_seq ?_
                          refine tr_region ?_
                          refine tl_step rfl (oj_val (y_fieldAddr (td := 3) Try.underlying38 rfl rfl Try.sizeOf3 (o' := 8) rfl (fe_t rfl)) ?_)
                          refine tl_step rfl (oj_val (y_ldb 0 Try.isAgg3 (fe_t rfl) rfl rfl) ?_)
                          refine tl_step rfl (oj_callv Try.call57 fe_f (fel_cons (fe_t rfl) fel_nil) (fun w' hS => eportsE (at_ l 9) w') ?_)
                          refine tl_step rfl (oj_val (y_notp (fe_t rfl)) ?_)
                          refine tl_step rfl (oj_val (y_move (fe_t rfl)) ?_)
                          refine tl_splitp (d := 80) rfl (fun hq13 => ?_) (fun hq14 => ?_)
                          · try (exfalso; omega)
                            all_goals
                              refine tl_skip rfl rfl rfl rfl ?_
                              refine tl_skip rfl rfl rfl rfl ?_
                              refine tl_skip rfl rfl rfl rfl ?_
                              refine tl_skip rfl rfl rfl rfl ?_
                              refine tl_step rfl (oj_val (y_pickt (fe_t rfl) fe_c) ?_)
                              refine tl_step rfl (oj_val (y_move (fe_t rfl)) ?_)
                              refine tl_skip rfl rfl rfl rfl ?_
                              refine tl_skip rfl rfl rfl rfl ?_
                              refine tl_skip rfl rfl rfl rfl ?_
                              refine tl_skip rfl rfl rfl rfl ?_
                              refine tl_skip rfl rfl rfl rfl ?_
                              refine tl_step rfl (oj_val (y_pickt (fe_t rfl) fe_c) ?_)
                              refine tl_nil ?_
                              refine tx_then ?_
                              refine tr_condt (fe_t rfl) ?_
                              refine tr_seq ?_
                              refine tr_region ?_
                              refine tl_step rfl (oj_val (y_ldbA 0 Try.isAgg38 Try.sizeOf38 (fe_t rfl) rfl rfl rfl) ?_)
                              refine tl_step rfl (oj_storeW 2 Try.sizeOf38 (fe_t rfl) (fe_t rfl) rfl rfl rfl rfl rfl (?_))
                              refine tl_step rfl (oj_val (y_assign fe_c) ?_)
                              refine tl_nil ?_
                              refine tx_then ?_
                              refine tr_ret ?_
                              refine tx_then_ret ?_
                              refine tx_ret (res2 Try.results19 (rok_b 2 Try.isAgg38 Try.sizeOf38 rfl rfl rfl) (rok_t rfl)) (fun w' hS => ?_)
                              have hP : ¬ ((at_ l 9 = 6 ∨ at_ l 9 = 17) ∧ two l 6 % 8192 = 0) := by omega
                              have hw : rd l = _ := rd_f (by omega) (by omega) (by omega) (by omega) (by omega) hP
                              exact ⟨by rw [hw]; rfl, hS.pick [] _ rfl (by decide)⟩
                          · try (exfalso; omega)
                            all_goals
                              refine tl_want rfl rfl rfl (oj_val (y_move (fe_t rfl)) ?_)
                              refine tl_want rfl rfl rfl (oj_val (y_indexI (m := 7) Try.underlying39 Try.sizeOf5 (fe_t rfl) fe_c (rdl_out hr) (by rw [cB_len]; omega) (by decide) (by decide) (by omega) rfl) ?_)
                              refine tl_want rfl rfl rfl (oj_val (y_ld Try.isAgg5 (fe_t rfl) (rdl_out hr) (getB (by omega))) ?_)
                              refine tl_want rfl rfl rfl (oj_val (y_neq (fe_t rfl) fe_c) ?_)
                              refine tl_step rfl (oj_val (y_pickf (fe_t rfl) (fe_t rfl)) ?_)
                              refine tl_step rfl (oj_val (y_move (fe_t rfl)) ?_)
                              refine tl_splitp (d := 86) rfl (fun hq15 => ?_) (fun hq16 => ?_)
                              · try (exfalso; omega)
                                all_goals
                                  refine tl_skip rfl rfl rfl rfl ?_
                                  refine tl_skip rfl rfl rfl rfl ?_
                                  refine tl_skip rfl rfl rfl rfl ?_
                                  refine tl_skip rfl rfl rfl rfl ?_
                                  refine tl_skip rfl rfl rfl rfl ?_
                                  refine tl_step rfl (oj_val (y_pickt (fe_t rfl) fe_c) ?_)
                                  refine tl_nil ?_
                                  refine tx_then ?_
                                  refine tr_condt (fe_t rfl) ?_
                                  refine tr_seq ?_
                                  refine tr_region ?_
                                  refine tl_step rfl (oj_val (y_ldbA 0 Try.isAgg38 Try.sizeOf38 (fe_t rfl) rfl rfl rfl) ?_)
                                  refine tl_step rfl (oj_storeW 2 Try.sizeOf38 (fe_t rfl) (fe_t rfl) rfl rfl rfl rfl rfl (?_))
                                  refine tl_step rfl (oj_val (y_assign fe_c) ?_)
                                  refine tl_nil ?_
                                  refine tx_then ?_
                                  refine tr_ret ?_
                                  refine tx_then_ret ?_
                                  refine tx_ret (res2 Try.results19 (rok_b 2 Try.isAgg38 Try.sizeOf38 rfl rfl rfl) (rok_t rfl)) (fun w' hS => ?_)
                                  have hP : ¬ ((at_ l 9 = 6 ∨ at_ l 9 = 17) ∧ two l 6 % 8192 = 0) := by omega
                                  have hw : rd l = _ := rd_f (by omega) (by omega) (by omega) (by omega) (by omega) hP
                                  exact ⟨by rw [hw]; rfl, hS.pick [] _ rfl (by decide)⟩
                              · try (exfalso; omega)
                                all_goals
                                  refine tl_want rfl rfl rfl (oj_val (y_move (fe_t rfl)) ?_)
                                  refine tl_want rfl rfl rfl (oj_val (y_indexI (m := 6) Try.underlying39 Try.sizeOf5 (fe_t rfl) fe_c (rdl_out hr) (by rw [cB_len]; omega) (by decide) (by decide) (by omega) rfl) ?_)
                                  refine tl_want rfl rfl rfl (oj_val (y_ld Try.isAgg5 (fe_t rfl) (rdl_out hr) (getB (by omega))) ?_)
                                  refine tl_want rfl rfl rfl (oj_val (y_rem (fe_t rfl) fe_c (by omega)) ?_)
                                  refine tl_want rfl rfl rfl (oj_val (y_neq (fe_t rfl) fe_c) ?_)
                                  refine tl_step rfl (oj_val (y_pickf (fe_t rfl) (fe_t rfl)) ?_)
                                  refine tl_nil ?_
                                  refine tx_then ?_
                                  refine tr_condp (fe_t rfl) (fun hq17 => ?_) (fun hq18 => ?_)
                                  · try (exfalso; omega)
                                    all_goals
                                      refine tr_seq ?_
                                      refine tr_region ?_
                                      refine tl_step rfl (oj_val (y_ldbA 0 Try.isAgg38 Try.sizeOf38 (fe_t rfl) rfl rfl rfl) ?_)
                                      refine tl_step rfl (oj_storeW 2 Try.sizeOf38 (fe_t rfl) (fe_t rfl) rfl rfl rfl rfl rfl (?_))
                                      refine tl_step rfl (oj_val (y_assign fe_c) ?_)
                                      refine tl_nil ?_
                                      refine tx_then ?_
                                      refine tr_ret ?_
                                      refine tx_then_ret ?_
                                      refine tx_ret (res2 Try.results19 (rok_b 2 Try.isAgg38 Try.sizeOf38 rfl rfl rfl) (rok_t rfl)) (fun w' hS => ?_)
                                      have hP : ¬ ((at_ l 9 = 6 ∨ at_ l 9 = 17) ∧ two l 6 % 8192 = 0) := by omega
                                      have hw : rd l = _ := rd_f (by omega) (by omega) (by omega) (by omega) (by omega) hP
                                      exact ⟨by rw [hw]; rfl, hS.pick [] _ rfl (by decide)⟩
                                  · try (exfalso; omega)
                                    all_goals
                                      refine tr_skip ?_
                                      refine tx_then ?_
                                      refine tr_seq ?_
                                      refine tr_seq ?_
                                      refine tr_region ?_
                                      refine tl_step rfl (oj_val (y_move (fe_t rfl)) ?_)
                                      refine tl_step rfl (oj_val (y_move (fe_t rfl)) ?_)
                                      refine tl_step rfl (oj_val (y_add (fe_t rfl) fe_c (by omega)) ?_)
                                      refine tl_step rfl (oj_val (y_lss (fe_t rfl) (fe_t rfl)) ?_)
                                      refine tl_nil ?_
                                      refine tx_then ?_
                                      refine tr_condp (fe_t rfl) (fun hq19 => ?_) (fun hq20 => ?_)
                                      · try (exfalso; omega)
                                        all_goals
                                          refine tr_seq ?_
                                          refine tr_region ?_
                                          refine tl_step rfl (oj_val (y_ldbA 1 Try.isAgg38 Try.sizeOf38 (fe_t rfl) rfl rfl rfl) ?_)
                                          refine tl_step rfl (oj_storeW 2 Try.sizeOf38 (fe_t rfl) (fe_t rfl) rfl rfl rfl rfl rfl (?_))
                                          refine tl_step rfl (oj_val (y_assign fe_c) ?_)
                                          refine tl_nil ?_
                                          refine tx_then ?_
                                          refine tr_ret ?_
                                          refine tx_then_ret ?_
                                          refine tx_ret (res2 Try.results19 (rok_b 2 Try.isAgg38 Try.sizeOf38 rfl rfl rfl) (rok_t rfl)) (fun w' hS => ?_)
                                          have hP : ((at_ l 9 = 6 ∨ at_ l 9 = 17) ∧ two l 6 % 8192 = 0) := by omega
                                          have hw : rd l = _ := rd_g (by omega) (by omega) (by omega) (by omega) (by omega) hP (by omega)
                                          exact ⟨by rw [hw]; rfl, hS.pick [] _ rfl (by decide)⟩
                                      · try (exfalso; omega)
                                        all_goals
                                          refine tr_skip ?_
                                          refine tx_then ?_
                                          refine tr_seq ?_
                                          have hbx0 := at_by hz (hl l)
                                          have hbx1 := at_by hz (hl l + 1)
                                          have hbx2 := at_by hz (hl l + 2)
                                          have hbx3 := at_by hz (hl l + 3)
                                          refine tr_draw (sel _ [1, 2]) (fun w h => h.sel _ rfl (by decide)) rfl ?_
                                          refine ta_float (i := 0) rfl (by kernel_rfl) (wants_none rfl) (yq_of (y_move (fe_t rfl))) ?_
                                          refine ta_float (i := 1) rfl (by kernel_rfl) (wants_none rfl) (yq_of (y_move (fe_t rfl))) ?_
                                          refine ta_float (i := 2) rfl (by kernel_rfl) (wants_none rfl) (yq_of (y_index Try.underlying39 Try.sizeOf5 (fe_t rfl) (fe_t rfl) (rdl_out hr) (by rw [cB_len]; omega) (by decide) (by omega) (Nat.mul_one _))) ?_
                                          refine ta_float (i := 3) rfl (by kernel_rfl) (wants_none rfl) (yq_of (y_ld Try.isAgg5 (fe_t rfl) (rdl_out hr) (getB (by omega)))) ?_
                                          refine ta_float (i := 4) rfl (by kernel_rfl) (wants_none rfl) (yq_of (y_convi Try.underlying5 Try.underlying3 (fe_t rfl) (IntWalk.i64_in _ (by omega)))) ?_
                                          refine ta_float (i := 5) rfl (by kernel_rfl) (wants_none rfl) (yq_of (y_mul (fe_t rfl) fe_c (by omega))) ?_
                                          refine ta_float (i := 6) rfl (by kernel_rfl) (wants_none rfl) (yq_of (y_move (fe_t rfl))) ?_
                                          refine ta_float (i := 7) rfl (by kernel_rfl) (wants_none rfl) (yq_of (y_move (fe_t rfl))) ?_
                                          refine ta_float (i := 8) rfl (by kernel_rfl) (wants_none rfl) (yq_of (y_inc (fe_t rfl) fe_c (by omega))) ?_
                                          refine ta_float (i := 9) rfl (by kernel_rfl) (wants_none rfl) (yq_of (y_index Try.underlying39 Try.sizeOf5 (fe_t rfl) (fe_t rfl) (rdl_out hr) (by rw [cB_len]; omega) (by decide) (by omega) (Nat.mul_one _))) ?_
                                          refine ta_float (i := 10) rfl (by kernel_rfl) (wants_none rfl) (yq_of (y_ld Try.isAgg5 (fe_t rfl) (rdl_out hr) (getB (by omega)))) ?_
                                          refine ta_float (i := 11) rfl (by kernel_rfl) (wants_none rfl) (yq_of (y_convi Try.underlying5 Try.underlying3 (fe_t rfl) (IntWalk.i64_in _ (by omega)))) ?_
                                          refine ta_float (i := 12) rfl (by kernel_rfl) (wants_none rfl) (yq_of (y_add (fe_t rfl) (fe_t rfl) (by omega))) ?_
                                          refine ta_float (i := 13) rfl (by kernel_rfl) (wants_none rfl) (yq_of (y_move (fe_t rfl))) ?_
                                          refine ta_float (i := 14) rfl (by kernel_rfl) (wants_none rfl) (yq_of (y_move (fe_t rfl))) ?_
                                          refine ta_float (i := 15) rfl (by kernel_rfl) (wants_none rfl) (yq_of (y_add (fe_t rfl) fe_c (by omega))) ?_
                                          refine ta_float (i := 16) rfl (by kernel_rfl) (wants_none rfl) (yq_of (y_indexI Try.underlying39 Try.sizeOf5 (fe_t rfl) (fe_t rfl) (rdl_out hr) (by rw [cB_len]; omega) (by decide) (by omega) (by omega) (Nat.mul_one _))) ?_
                                          refine ta_float (i := 17) rfl (by kernel_rfl) (wants_none rfl) (yq_of (y_ld (v := .int .u8 (at_ l (hl l + 2))) Try.isAgg5 (fe_t rfl) (rdl_out hr) (by rw [show ((((hl l : Nat) : Int) + 2).toNat : Nat) = hl l + 2 by omega]; exact getB (by omega)))) ?_
                                          refine ta_float (i := 18) rfl (by kernel_rfl) (wants_none rfl) (yq_of (y_convi Try.underlying5 Try.underlying3 (fe_t rfl) (IntWalk.i64_in _ (by omega)))) ?_
                                          refine ta_float (i := 19) rfl (by kernel_rfl) (wants_none rfl) (yq_of (y_mul (fe_t rfl) fe_c (by omega))) ?_
                                          refine ta_float (i := 20) rfl (by kernel_rfl) (wants_none rfl) (yq_of (y_move (fe_t rfl))) ?_
                                          refine ta_float (i := 21) rfl (by kernel_rfl) (wants_none rfl) (yq_of (y_move (fe_t rfl))) ?_
                                          refine ta_float (i := 22) rfl (by kernel_rfl) (wants_none rfl) (yq_of (y_add (fe_t rfl) fe_c (by omega))) ?_
                                          refine ta_float (i := 23) rfl (by kernel_rfl) (wants_none rfl) (yq_of (y_indexI Try.underlying39 Try.sizeOf5 (fe_t rfl) (fe_t rfl) (rdl_out hr) (by rw [cB_len]; omega) (by decide) (by omega) (by omega) (Nat.mul_one _))) ?_
                                          refine ta_float (i := 24) rfl (by kernel_rfl) (wants_none rfl) (yq_of (y_ld (v := .int .u8 (at_ l (hl l + 3))) Try.isAgg5 (fe_t rfl) (rdl_out hr) (by rw [show ((((hl l : Nat) : Int) + 3).toNat : Nat) = hl l + 3 by omega]; exact getB (by omega)))) ?_
                                          refine ta_float (i := 25) rfl (by kernel_rfl) (wants_none rfl) (yq_of (y_convi Try.underlying5 Try.underlying3 (fe_t rfl) (IntWalk.i64_in _ (by omega)))) ?_
                                          refine ta_float (i := 26) rfl (by kernel_rfl) (wants_none rfl) (yq_of (y_add (fe_t rfl) (fe_t rfl) (by omega))) ?_
                                          refine ta_float (i := 27) rfl (by kernel_rfl) (wants_none rfl) (yq_of (y_fieldAddr (td := 3) Try.underlying38 rfl rfl Try.sizeOf3 (o' := 9) rfl (fe_t rfl))) ?_
                                          refine ta_one (i := 28) rfl (by kernel_rfl) (wants_none rfl) (oj_store1 0 Try.sizeOf3 (fe_t rfl) (fe_t rfl) rfl rfl rfl rfl (⟨fun w h => h.pick [1, 2] _ rfl (by decide), ?_⟩))
                                          refine ta_float (i := 29) rfl (by kernel_rfl) (wants_none rfl) (yq_of (y_fieldAddr (td := 3) Try.underlying38 rfl rfl Try.sizeOf3 (o' := 10) rfl (fe_t rfl))) ?_
                                          refine ta_one (i := 30) rfl (by kernel_rfl) (wants_none rfl) (oj_store1 0 Try.sizeOf3 (fe_t rfl) (fe_t rfl) rfl rfl rfl rfl (⟨fun w h => h.pick [1, 2] _ rfl (by decide), ?_⟩))
                                          refine ta_done (by kernel_rfl) ?_
                                          refine tx_then ?_
                                          refine tr_seq ?_
                                          refine tr_region ?_
                                          refine tl_step rfl (oj_val (y_ldbA 0 Try.isAgg38 Try.sizeOf38 (fe_t rfl) rfl rfl rfl) ?_)
                                          refine tl_step rfl (oj_storeW 2 Try.sizeOf38 (fe_t rfl) (fe_t rfl) rfl rfl rfl rfl rfl (?_))
                                          refine tl_step rfl (oj_val (y_assign fe_c) ?_)
                                          refine tl_nil ?_
                                          refine tx_then ?_
                                          refine tr_ret ?_
                                          refine tx_ret (res2 Try.results19 (rok_b 2 Try.isAgg38 Try.sizeOf38 rfl rfl rfl) (rok_t rfl)) (fun w' hS => ?_)
                                          have hP : ((at_ l 9 = 6 ∨ at_ l 9 = 17) ∧ two l 6 % 8192 = 0) := by omega
                                          have hw : rd l = _ := rd_h (by omega) (by omega) (by omega) (by omega) (by omega) hP (by omega)
                                          exact ⟨by rw [hw]; rfl, hS.pick [] _ rfl (by decide)⟩

end Go.Proofs.Ytpknjfeiiaopgaa.Head
