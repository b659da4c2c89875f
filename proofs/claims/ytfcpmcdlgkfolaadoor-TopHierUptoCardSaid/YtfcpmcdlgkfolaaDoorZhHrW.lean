/- tree.Wrong, QWrong, tree.Leaves. -/
import Derived.Test.YtfcpmcdlgkfolaaDoorZhHrT
import Derived.Test.YtfcpmcdlgkfolaaDoorZhWqA
import Derived.Test.YtfcpmcdlgkfolaaDoorZhEF
namespace Go.Proofs.YtfcpmcdlgkfolaaDoor.Hier
open Go.RowKit Go.Proofs.YtfcpmcdlgkfolaaDoor.E Go.Proofs.YtfcpmcdlgkfolaaDoor.Wfq
open Go.Proofs.YtfcpmcdlgkfolaaDoor.Scfq (hd hd_mem)

set_option maxRecDepth 100000 in
set_option maxHeartbeats 2000000 in
theorem treeWrongE (A : Option Addr) (n c : Nat) (ns : List (Int × Int)) (w : World) (hr : Rd w A (ns.flatMap c2)) (hn : ns.length = n) (hm : n ≤ 140737488355328) :
    Calls Tryd.prog 81 #[.slice A n c] w fun e w' => e = .returned ((.int .i64 (wrongT ns))) ∧ St w w' [] := by
  refine calls_tr Tryd.func81 Tryd.ntmps81 rfl rfl (St.refl _) ?_
  refine tr_seq ?_
  refine tr_region ?_
  refine tl_step rfl (oj_val (y_assign fe_c) ?_)
  refine tl_nil ?_
  refine tx_then ?_
  refine tr_seq ?_
  refine tr_seq ?_
  refine tr_region ?_
  refine tl_step rfl (oj_val (y_move (fe_t rfl)) ?_)
  refine tl_step rfl (oj_val (y_len Tryd.underlying67 (fe_t rfl)) ?_)
  refine tl_step rfl (oj_val (y_lss (fe_t rfl) fe_c) ?_)
  refine tl_step rfl (oj_val (y_move (fe_t rfl)) ?_)
  refine tl_splitp (d := 8) rfl (fun hq1 => ?_) (fun hq2 => ?_)
  · try (exfalso; omega)
    all_goals
      refine tl_skip rfl rfl rfl rfl ?_
      refine tl_skip rfl rfl rfl rfl ?_
      refine tl_skip rfl rfl rfl rfl ?_
      refine tl_step rfl (oj_val (y_pickt (fe_t rfl) fe_c) ?_)
      refine tl_nil ?_
      refine tx_then ?_
      refine tr_condt (fe_t rfl) ?_
      refine tr_seq ?_
      refine tr_region ?_
      refine tl_step rfl (oj_val (y_assign fe_c) ?_)
      refine tl_nil ?_
      refine tx_then ?_
      refine tr_ret ?_
      refine tx_then_ret ?_
      refine tx_ret (res1 Tryd.results81 (rok_t rfl)) (fun w' hS => ?_)
      exact ⟨by rw [wrongT_len (by omega)], hS.pick [] _ rfl (by decide)⟩
  · try (exfalso; omega)
    all_goals
      refine tl_want rfl rfl rfl (oj_val (y_move (fe_t rfl)) ?_)
      refine tl_want rfl rfl rfl (oj_val (y_len Tryd.underlying67 (fe_t rfl)) ?_)
      refine tl_want rfl rfl rfl (oj_val (y_gtr (fe_t rfl) fe_c) ?_)
      refine tl_step rfl (oj_val (y_pickf (fe_t rfl) (fe_t rfl)) ?_)
      refine tl_nil ?_
      refine tx_then ?_
      refine tr_condp (fe_t rfl) (fun hq3 => ?_) (fun hq4 => ?_)
      · try (exfalso; omega)
        all_goals
          refine tr_seq ?_
          refine tr_region ?_
          refine tl_step rfl (oj_val (y_assign fe_c) ?_)
          refine tl_nil ?_
          refine tx_then ?_
          refine tr_ret ?_
          refine tx_then_ret ?_
          refine tx_ret (res1 Tryd.results81 (rok_t rfl)) (fun w' hS => ?_)
          exact ⟨by rw [wrongT_len (by omega)], hS.pick [] _ rfl (by decide)⟩
      · try (exfalso; omega)
        all_goals
          refine tr_skip ?_
          refine tx_then ?_
          refine tr_seq ?_
          refine tr_seq ?_
          refine tr_region ?_
          refine tl_step rfl (oj_val (y_move (fe_t rfl)) ?_)
          refine tl_step rfl (oj_val (y_len Tryd.underlying67 (fe_t rfl)) ?_)
          refine tl_step rfl (oj_val (y_move fe_c) ?_)
          refine tl_nil ?_
          refine tx_then ?_
          refine tr_block ?_
          refine tr_loop1 [2, 3, 4, 15, 16, 17, 18, 19, 20, 21, 22, 23, 24, 25, 26, 27, 28, 29, 30, 31, 32, 33, 34, 35, 36, 37, 38, 39, 40, 41, 42, 43, 44, 45, 46, 47, 48, 49, 50] (fun (k : Nat) => [(15, .int .i64 (k : Int))]) 0 (fun (k : Nat) => []) (fun (k : Nat) => k ≤ n ∧ firstBad ns k = 0) (fun (k : Nat) => n - k) (0) (cov_cons (by first | rfl | exact v_int (by omega) | exact v_bool (by simp [*])) (cov_nil)) (fun w h => h) ?_ ?_
          · try dsimp only
            exact ⟨by omega, rfl⟩
          intro k hp
          obtain ⟨hk, hfb⟩ := hp
          refine tr_seq ?_
          refine tr_region ?_
          refine tl_step rfl (oj_val (y_lss (fe_t rfl) (fe_t rfl)) ?_)
          refine tl_nil ?_
          refine tx_then ?_
          refine tr_seq ?_
          refine tr_condp (fe_t rfl) (fun hq5 => ?_) (fun hq6 => ?_)
          · try (exfalso; omega)
            all_goals
              refine tr_skip ?_
              refine tx_then ?_
              refine tr_seq ?_
              refine tr_block ?_
              refine tr_seq ?_
              refine tr_region ?_
              refine tl_step rfl (oj_val (y_move (fe_t rfl)) ?_)
              refine tl_step rfl (oj_val (y_index Tryd.underlying67 Tryd.sizeOf72 (fe_t rfl) (fe_t rfl) (rdl_out hr) (lenN hn) (by decide) (by omega) rfl) ?_)
              refine tl_step rfl (oj_val (y_ldA (cs := [(.int .i64 (n1 ns k)), (.int .i64 (n2 ns k))]) Tryd.isAgg72 Tryd.sizeOf72 (fe_t rfl) (rdl_out hr) rfl (by decide) (getN (by omega))) ?_)
              refine tl_step rfl (oj_alloc Tryd.zeroValue72 (fun bn => ?_))
              refine tl_step rfl (oj_val (y_assign (fe_t rfl)) ?_)
              refine tl_step rfl (oj_storeW 0 Tryd.sizeOf72 (fe_t rfl) (fe_t rfl) rfl rfl rfl rfl rfl (?_))
              refine tl_nil ?_
              refine tx_then ?_
              refine tr_seq ?_
              refine tr_seq ?_
              refine tr_region ?_
              refine tl_step rfl (oj_val (y_fieldAddr (td := 3) Tryd.underlying72 rfl rfl Tryd.sizeOf3 (o' := 1) rfl (fe_t rfl)) ?_)
              refine tl_step rfl (oj_val (y_ldb 0 Tryd.isAgg3 (fe_t rfl) rfl rfl) ?_)
              refine tl_step rfl (oj_val (y_lss (fe_t rfl) fe_c) ?_)
              refine tl_step rfl (oj_val (y_move (fe_t rfl)) ?_)
              refine tl_splitp (d := 23) rfl (fun hq7 => ?_) (fun hq8 => ?_)
              · try (exfalso; omega)
                all_goals
                  refine tl_skip rfl rfl rfl rfl ?_
                  refine tl_skip rfl rfl rfl rfl ?_
                  refine tl_skip rfl rfl rfl rfl ?_
                  refine tl_step rfl (oj_val (y_pickt (fe_t rfl) fe_c) ?_)
                  refine tl_nil ?_
                  refine tx_then ?_
                  refine tr_condt (fe_t rfl) ?_
                  refine tr_seq ?_
                  refine tr_region ?_
                  refine tl_step rfl (oj_val (y_assign fe_c) ?_)
                  refine tl_nil ?_
                  refine tx_then ?_
                  refine tr_ret ?_
                  refine tx_then_ret ?_
                  refine tx_in_ret ?_
                  refine tx_then_ret ?_
                  refine tx_then_ret ?_
                  refine tx_in_ret ?_
                  refine tx_then_ret ?_
                  refine tx_ret (res1 Tryd.results81 (rok_t rfl)) (fun w' hS => ?_)
                  exact ⟨by rw [wrongT_at (k := k) (v := 2) (by omega) (by omega) hfb (by unfold bad1; rw [if_pos (by omega)]) (by decide)], hS.pick [] _ rfl (by decide)⟩
              · try (exfalso; omega)
                all_goals
                  refine tl_want rfl rfl rfl (oj_val (y_fieldAddr (td := 3) Tryd.underlying72 rfl rfl Tryd.sizeOf3 (o' := 1) rfl (fe_t rfl)) ?_)
                  refine tl_want rfl rfl rfl (oj_val (y_ldb 0 Tryd.isAgg3 (fe_t rfl) rfl rfl) ?_)
                  refine tl_want rfl rfl rfl (oj_val (y_gtr (fe_t rfl) fe_c) ?_)
                  refine tl_step rfl (oj_val (y_pickf (fe_t rfl) (fe_t rfl)) ?_)
                  refine tl_nil ?_
                  refine tx_then ?_
                  refine tr_condp (fe_t rfl) (fun hq9 => ?_) (fun hq10 => ?_)
                  · try (exfalso; omega)
                    all_goals
                      refine tr_seq ?_
                      refine tr_region ?_
                      refine tl_step rfl (oj_val (y_assign fe_c) ?_)
                      refine tl_nil ?_
                      refine tx_then ?_
                      refine tr_ret ?_
                      refine tx_then_ret ?_
                      refine tx_in_ret ?_
                      refine tx_then_ret ?_
                      refine tx_then_ret ?_
                      refine tx_in_ret ?_
                      refine tx_then_ret ?_
                      refine tx_ret (res1 Tryd.results81 (rok_t rfl)) (fun w' hS => ?_)
                      exact ⟨by rw [wrongT_at (k := k) (v := 2) (by omega) (by omega) hfb (by unfold bad1; rw [if_pos (by omega)]) (by decide)], hS.pick [] _ rfl (by decide)⟩
                  · try (exfalso; omega)
                    all_goals
                      refine tr_skip ?_
                      refine tx_then ?_
                      refine tr_seq ?_
                      refine tr_region ?_
                      refine tl_step rfl (oj_val (y_move (fe_t rfl)) ?_)
                      refine tl_step rfl (oj_val (y_eq (fe_t rfl) fe_c) ?_)
                      refine tl_step rfl (oj_val (y_move (fe_t rfl)) ?_)
                      refine tl_splitp (d := 30) rfl (fun hq11 => ?_) (fun hq12 => ?_)
                      · try (exfalso; omega)
                        all_goals
                          refine tl_want rfl rfl rfl (oj_val (y_fieldAddr (td := 3) Tryd.underlying72 rfl rfl Tryd.sizeOf3 (o' := 0) rfl (fe_t rfl)) ?_)
                          refine tl_want rfl rfl rfl (oj_val (y_ldb 0 Tryd.isAgg3 (fe_t rfl) rfl rfl) ?_)
                          refine tl_want rfl rfl rfl (oj_val (y_neq (fe_t rfl) fe_c) ?_)
                          refine tl_step rfl (oj_val (y_pickt (fe_t rfl) (fe_t rfl)) ?_)
                          refine tl_step rfl (oj_val (y_move (fe_t rfl)) ?_)
                          refine tl_splitp (d := 35) rfl (fun hq13 => ?_) (fun hq14 => ?_)
                          · try (exfalso; omega)
                            all_goals
                              refine tl_skip rfl rfl rfl rfl ?_
                              refine tl_skip rfl rfl rfl rfl ?_
                              refine tl_skip rfl rfl rfl rfl ?_
                              refine tl_skip rfl rfl rfl rfl ?_
                              refine tl_skip rfl rfl rfl rfl ?_
                              refine tl_skip rfl rfl rfl rfl ?_
                              refine tl_skip rfl rfl rfl rfl ?_
                              refine tl_skip rfl rfl rfl rfl ?_
                              refine tl_skip rfl rfl rfl rfl ?_
                              refine tl_skip rfl rfl rfl rfl ?_
                              refine tl_skip rfl rfl rfl rfl ?_
                              refine tl_skip rfl rfl rfl rfl ?_
                              refine tl_skip rfl rfl rfl rfl ?_
                              refine tl_step rfl (oj_val (y_pickt (fe_t rfl) fe_c) ?_)
                              refine tl_nil ?_
                              refine tx_then ?_
                              refine tr_condt (fe_t rfl) ?_
                              refine tr_seq ?_
                              refine tr_region ?_
                              refine tl_step rfl (oj_val (y_assign fe_c) ?_)
                              refine tl_nil ?_
                              refine tx_then ?_
                              refine tr_ret ?_
                              refine tx_in_ret ?_
                              refine tx_then_ret ?_
                              refine tx_then_ret ?_
                              refine tx_in_ret ?_
                              refine tx_then_ret ?_
                              refine tx_ret (res1 Tryd.results81 (rok_t rfl)) (fun w' hS => ?_)
                              exact ⟨by rw [wrongT_at (k := k) (v := 1) (by omega) (by omega) hfb (by unfold bad1; rw [if_neg (by omega), if_pos (by omega)]) (by decide)], hS.pick [] _ rfl (by decide)⟩
                          · try (exfalso; omega)
                            all_goals
                              refine tl_want rfl rfl rfl (oj_val (y_move (fe_t rfl)) ?_)
                              refine tl_want rfl rfl rfl (oj_val (y_gtr (fe_t rfl) fe_c) ?_)
                              refine tl_want rfl rfl rfl (oj_val (y_move (fe_t rfl)) ?_)
                              refine tl_splitp (d := 38) rfl (fun hq15 => ?_) (fun hq16 => ?_)
                              · exfalso; omega
                              · try (exfalso; omega)
                                all_goals
                                  refine tl_skip rfl rfl rfl rfl ?_
                                  refine tl_skip rfl rfl rfl rfl ?_
                                  refine tl_skip rfl rfl rfl rfl ?_
                                  refine tl_skip rfl rfl rfl rfl ?_
                                  refine tl_skip rfl rfl rfl rfl ?_
                                  refine tl_skip rfl rfl rfl rfl ?_
                                  refine tl_skip rfl rfl rfl rfl ?_
                                  refine tl_skip rfl rfl rfl rfl ?_
                                  refine tl_skip rfl rfl rfl rfl ?_
                                  refine tl_want rfl rfl rfl (oj_val (y_pickf (fe_t rfl) fe_c) ?_)
                                  refine tl_step rfl (oj_val (y_pickf (fe_t rfl) (fe_t rfl)) ?_)
                                  refine tl_nil ?_
                                  refine tx_then ?_
                                  refine tr_condf (fe_t rfl) ?_
                                  refine tr_skip ?_
                                  refine tx_in ?_
                                  refine tx_then ?_
                                  refine tr_region ?_
                                  refine tl_step rfl (oj_val (y_inc (fe_t rfl) fe_c (by omega)) ?_)
                                  refine tl_step rfl (oj_val (y_move (fe_t rfl)) ?_)
                                  refine tl_nil ?_
                                  apply tx_back1 (k + 1)
                                  · exact (cov_cons (by first | rfl | exact v_int (by omega) | exact v_bool (by simp [*])) (cov_nil))
                                  · repeat (first | exact over_nil | refine over_put rfl ?_ | refine over_drop rfl ?_)
                                  · exact fun w h => h.pick [] _ rfl (by decide)
                                  · exact ⟨⟨by omega, by rw [firstBad, if_pos hfb]; exact bad_ok.2 (by omega)⟩, by omega⟩
                      · try (exfalso; omega)
                        all_goals
                          refine tl_skip rfl rfl rfl rfl ?_
                          refine tl_skip rfl rfl rfl rfl ?_
                          refine tl_skip rfl rfl rfl rfl ?_
                          refine tl_step rfl (oj_val (y_pickf (fe_t rfl) fe_c) ?_)
                          refine tl_step rfl (oj_val (y_move (fe_t rfl)) ?_)
                          refine tl_want rfl rfl rfl (oj_val (y_move (fe_t rfl)) ?_)
                          refine tl_want rfl rfl rfl (oj_val (y_gtr (fe_t rfl) fe_c) ?_)
                          refine tl_want rfl rfl rfl (oj_val (y_move (fe_t rfl)) ?_)
                          refine tl_splitp (d := 38) rfl (fun hq17 => ?_) (fun hq18 => ?_)
                          · try (exfalso; omega)
                            all_goals
                              refine tl_want rfl rfl rfl (oj_val (y_fieldAddr (td := 3) Tryd.underlying72 rfl rfl Tryd.sizeOf3 (o' := 0) rfl (fe_t rfl)) ?_)
                              refine tl_want rfl rfl rfl (oj_val (y_ldb 0 Tryd.isAgg3 (fe_t rfl) rfl rfl) ?_)
                              refine tl_want rfl rfl rfl (oj_val (y_lss (fe_t rfl) fe_c) ?_)
                              refine tl_want rfl rfl rfl (oj_val (y_move (fe_t rfl)) ?_)
                              refine tl_splitp (d := 42) rfl (fun hq19 => ?_) (fun hq20 => ?_)
                              · try (exfalso; omega)
                                all_goals
                                  refine tl_skip rfl rfl rfl rfl ?_
                                  refine tl_skip rfl rfl rfl rfl ?_
                                  refine tl_skip rfl rfl rfl rfl ?_
                                  refine tl_skip rfl rfl rfl rfl ?_
                                  refine tl_want rfl rfl rfl (oj_val (y_pickt (fe_t rfl) fe_c) ?_)
                                  refine tl_want rfl rfl rfl (oj_val (y_pickt (fe_t rfl) (fe_t rfl)) ?_)
                                  refine tl_step rfl (oj_val (y_pickf (fe_t rfl) (fe_t rfl)) ?_)
                                  refine tl_nil ?_
                                  refine tx_then ?_
                                  refine tr_condt (fe_t rfl) ?_
                                  refine tr_seq ?_
                                  refine tr_region ?_
                                  refine tl_step rfl (oj_val (y_assign fe_c) ?_)
                                  refine tl_nil ?_
                                  refine tx_then ?_
                                  refine tr_ret ?_
                                  refine tx_in_ret ?_
                                  refine tx_then_ret ?_
                                  refine tx_then_ret ?_
                                  refine tx_in_ret ?_
                                  refine tx_then_ret ?_
                                  refine tx_ret (res1 Tryd.results81 (rok_t rfl)) (fun w' hS => ?_)
                                  exact ⟨by rw [wrongT_at (k := k) (v := 1) (by omega) (by omega) hfb (by unfold bad1; rw [if_neg (by omega), if_pos (by omega)]) (by decide)], hS.pick [] _ rfl (by decide)⟩
                              · try (exfalso; omega)
                                all_goals
                                  refine tl_want rfl rfl rfl (oj_val (y_fieldAddr (td := 3) Tryd.underlying72 rfl rfl Tryd.sizeOf3 (o' := 0) rfl (fe_t rfl)) ?_)
                                  refine tl_want rfl rfl rfl (oj_val (y_ldb 0 Tryd.isAgg3 (fe_t rfl) rfl rfl) ?_)
                                  refine tl_want rfl rfl rfl (oj_val (y_move (fe_t rfl)) ?_)
                                  refine tl_want rfl rfl rfl (oj_val (y_geq (fe_t rfl) (fe_t rfl)) ?_)
                                  refine tl_want rfl rfl rfl (oj_val (y_pickf (fe_t rfl) (fe_t rfl)) ?_)
                                  refine tl_want rfl rfl rfl (oj_val (y_pickt (fe_t rfl) (fe_t rfl)) ?_)
                                  refine tl_step rfl (oj_val (y_pickf (fe_t rfl) (fe_t rfl)) ?_)
                                  refine tl_nil ?_
                                  refine tx_then ?_
                                  refine tr_condp (fe_t rfl) (fun hq21 => ?_) (fun hq22 => ?_)
                                  · try (exfalso; omega)
                                    all_goals
                                      refine tr_seq ?_
                                      refine tr_region ?_
                                      refine tl_step rfl (oj_val (y_assign fe_c) ?_)
                                      refine tl_nil ?_
                                      refine tx_then ?_
                                      refine tr_ret ?_
                                      refine tx_in_ret ?_
                                      refine tx_then_ret ?_
                                      refine tx_then_ret ?_
                                      refine tx_in_ret ?_
                                      refine tx_then_ret ?_
                                      refine tx_ret (res1 Tryd.results81 (rok_t rfl)) (fun w' hS => ?_)
                                      exact ⟨by rw [wrongT_at (k := k) (v := 1) (by omega) (by omega) hfb (by unfold bad1; rw [if_neg (by omega), if_pos (by omega)]) (by decide)], hS.pick [] _ rfl (by decide)⟩
                                  · try (exfalso; omega)
                                    all_goals
                                      refine tr_skip ?_
                                      refine tx_in ?_
                                      refine tx_then ?_
                                      refine tr_region ?_
                                      refine tl_step rfl (oj_val (y_inc (fe_t rfl) fe_c (by omega)) ?_)
                                      refine tl_step rfl (oj_val (y_move (fe_t rfl)) ?_)
                                      refine tl_nil ?_
                                      apply tx_back1 (k + 1)
                                      · exact (cov_cons (by first | rfl | exact v_int (by omega) | exact v_bool (by simp [*])) (cov_nil))
                                      · repeat (first | exact over_nil | refine over_put rfl ?_ | refine over_drop rfl ?_)
                                      · exact fun w h => h.pick [] _ rfl (by decide)
                                      · exact ⟨⟨by omega, by rw [firstBad, if_pos hfb]; exact bad_ok.2 (by omega)⟩, by omega⟩
                          · exfalso; omega
          · try (exfalso; omega)
            all_goals
              refine tr_exit ?_
              refine tx_then_exit ?_
              refine tx_then_exit ?_
              refine tx_in_exit ?_
              refine tx_then ?_
              refine tr_seq ?_
              refine tr_region ?_
              refine tl_step rfl (oj_val (y_assign fe_c) ?_)
              refine tl_nil ?_
              refine tx_then ?_
              refine tr_ret ?_
              refine tx_ret (res1 Tryd.results81 (rok_t rfl)) (fun w' hS => ?_)
              exact ⟨by rw [wrongT_ok (by omega) (by rw [show ns.length = k by omega]; exact hfb)], hS.pick [] _ rfl (by decide)⟩

set_option maxRecDepth 100000 in
theorem leaf1E {w0 w : World} {T : List Res} {kb k : Nat} {a b : Int} (hS : St w0 w (blk kb [(.int .i64 ((k : Int)))] :: T)) :
    Calls Tryd.prog 82 #[.agg #[(.int .i64 a), (.int .i64 b)], .pointer (some ⟨kb, 0, none⟩)] w fun e w' => ∃ q : Bool, q = decide (a = (k : Int)) ∧ e = .returned (.bool q) ∧ St w0 w' (blk kb [(.int .i64 ((k : Int)))] :: T) := by
  refine calls_tr Tryd.func82 Tryd.ntmps82 rfl rfl hS ?_
  refine tr_seq ?_
  refine tr_region ?_
  refine tl_step rfl (oj_box (fe_t rfl) (fun b1 => ?_))
  refine tl_step rfl (oj_val (y_assign fe_c) ?_)
  refine tl_nil ?_
  refine tx_then ?_
  refine tr_seq ?_
  refine tr_region ?_
  refine tl_step rfl (oj_val (y_fieldAddr (td := 3) Tryd.underlying72 rfl rfl Tryd.sizeOf3 (o' := 0) rfl (fe_t rfl)) ?_)
  refine tl_step rfl (oj_val (y_ldb 0 Tryd.isAgg3 (fe_t rfl) rfl rfl) ?_)
  refine tl_step rfl (oj_val (y_ldb 1 Tryd.isAgg3 (fe_t rfl) rfl rfl) ?_)
  refine tl_step rfl (oj_val (y_eq (fe_t rfl) (fe_t rfl)) ?_)
  refine tl_step rfl (oj_val (y_assign (fe_t rfl)) ?_)
  refine tl_nil ?_
  refine tx_then ?_
  refine tr_ret ?_
  refine tx_ret (res1 Tryd.results82 (rok_t rfl)) (fun w' hS => ?_)
  have h1 := pickT (l := [_, _]) hS [1] rfl (by decide)
  exact ⟨_, rfl, rfl, h1⟩

set_option maxRecDepth 100000 in
set_option maxHeartbeats 1000000 in
theorem idxE {w0 w : World} {T : List Res} {kb k : Nat} (A : Option Addr) (n c : Nat) (ns : List (Int × Int)) (hS : St w0 w (blk kb [(.int .i64 ((k : Int)))] :: T)) (hr : Rd w0 A (ns.flatMap c2)) (hn : ns.length = n) (hm : n ≤ 140737488355328) :
    Calls Tryd.prog 54 #[.slice A n c, .func (.func 82) #[] #[.pointer (some ⟨kb, 0, none⟩)]] w fun e w' => ∃ r : Int, (0 ≤ r ↔ ¬ (trOf ns).kids k = []) ∧ e = .returned (.int .i64 r) ∧ St w0 w' (blk kb [(.int .i64 ((k : Int)))] :: T) := by
  refine calls_tr Tryd.func54 Tryd.ntmps54 rfl rfl hS ?_
  refine tr_seq ?_
  refine tr_region ?_
  refine tl_step rfl (oj_val (y_assign fe_c) ?_)
  refine tl_nil ?_
  refine tx_then ?_
  refine tr_seq ?_
  refine tr_seq ?_
  refine tr_region ?_
  refine tl_step rfl (oj_val (y_move (fe_t rfl)) ?_)
  refine tl_step rfl (oj_val (y_len Tryd.underlying67 (fe_t rfl)) ?_)
  refine tl_step rfl (oj_val (y_move fe_c) ?_)
  refine tl_nil ?_
  refine tx_then ?_
  refine tr_block ?_
  refine tr_loop1 [4, 5, 8, 9, 10, 11, 12, 13, 14, 15, 16, 17, 18] (fun (j : Nat) => [(8, .int .i64 (j : Int))]) 0 (fun (j : Nat) => []) (fun (j : Nat) => j ≤ n ∧ ∀ i, i < j → n1 ns i ≠ k) (fun (j : Nat) => n - j) (0) (cov_cons (by first | rfl | exact v_int (by omega) | exact v_bool (by simp [*])) (cov_nil)) (fun w h => h) ?_ ?_
  · try dsimp only
    exact ⟨by omega, fun i h => by omega⟩
  intro j hp
  obtain ⟨hj, hall⟩ := hp
  refine tr_seq ?_
  refine tr_region ?_
  refine tl_step rfl (oj_val (y_lss (fe_t rfl) (fe_t rfl)) ?_)
  refine tl_nil ?_
  refine tx_then ?_
  refine tr_seq ?_
  refine tr_condp (fe_t rfl) (fun hq1 => ?_) (fun hq2 => ?_)
  · refine tr_skip ?_
    refine tx_then ?_
    refine tr_seq ?_
    refine tr_block ?_
    refine tr_seq ?_
    refine tr_region ?_
    refine tl_step rfl (oj_val (y_move (fe_t rfl)) ?_)
    refine tl_step rfl (oj_val (y_assign (fe_t rfl)) ?_)
    refine tl_nil ?_
    refine tx_then ?_
    refine tr_seq ?_
    refine tr_region ?_
    refine tl_step rfl (oj_val (y_move (fe_t rfl)) ?_)
    refine tl_step rfl (oj_val (y_move (fe_t rfl)) ?_)
    refine tl_step rfl (oj_val (y_move (fe_t rfl)) ?_)
    refine tl_step rfl (oj_val (y_index Tryd.underlying67 Tryd.sizeOf72 (fe_t rfl) (fe_t rfl) (rdl_out hr) (lenN hn) (by decide) (by omega) rfl) ?_)
    refine tl_step rfl (oj_val (y_ldA (cs := [(.int .i64 (n1 ns j)), (.int .i64 (n2 ns j))]) Tryd.isAgg72 Tryd.sizeOf72 (fe_t rfl) (rdl_out hr) rfl (by decide) (getN (by omega))) ?_)
    refine tl_step rfl (oj_callF Tryd.call82 (fe_t rfl) (fel_cons (fe_t rfl) fel_nil) (fun w' hS => leaf1E hS) (fun q hQ => ?_))
    refine tl_nil ?_
    refine tx_then ?_
    refine tr_cond (fe_t rfl) (fun hq3 => ?_) (fun hq4 => ?_)
    · have hc : n1 ns j = (k : Int) := by have hb := hq3; rw [hQ] at hb; exact of_decide_eq_true hb
      refine tr_seq ?_
      refine tr_region ?_
      refine tl_step rfl (oj_val (y_move (fe_t rfl)) ?_)
      refine tl_step rfl (oj_val (y_assign (fe_t rfl)) ?_)
      refine tl_nil ?_
      refine tx_then ?_
      refine tr_ret ?_
      refine tx_in_ret ?_
      refine tx_then_ret ?_
      refine tx_then_ret ?_
      refine tx_in_ret ?_
      refine tx_then_ret ?_
      refine tx_ret (res1 Tryd.results54 (rok_t rfl)) (fun w' hS => ?_)
      have h1 := pickT (l := [_]) hS [0] rfl (by decide)
      exact ⟨(j : Int), ⟨fun _ h0 => kids_nil.1 h0 j (by omega) hc, fun _ => by omega⟩, rfl, h1⟩
    · have hc : n1 ns j ≠ (k : Int) := by have hb := hq4; rw [hQ] at hb; exact of_decide_eq_false hb
      refine tr_skip ?_
      refine tx_in ?_
      refine tx_then ?_
      refine tr_region ?_
      refine tl_step rfl (oj_val (y_inc (fe_t rfl) fe_c (by omega)) ?_)
      refine tl_step rfl (oj_val (y_move (fe_t rfl)) ?_)
      refine tl_nil ?_
      apply tx_back1 (j + 1)
      · exact (cov_cons (by first | rfl | exact v_int (by omega) | exact v_bool (by simp [*])) (cov_nil))
      · repeat (first | exact over_nil | refine over_put rfl ?_ | refine over_drop rfl ?_)
      · exact fun w h => h
      · exact ⟨⟨by omega, fun i hi => by
          by_cases e : i = j
          · subst e; exact hc
          · exact hall i (by omega)⟩, by omega⟩
  · refine tr_exit ?_
    refine tx_then_exit ?_
    refine tx_then_exit ?_
    refine tx_in_exit ?_
    refine tx_then ?_
    refine tr_seq ?_
    refine tr_region ?_
    refine tl_step rfl (oj_val (y_assign fe_c) ?_)
    refine tl_nil ?_
    refine tx_then ?_
    refine tr_ret ?_
    refine tx_ret (res1 Tryd.results54 (rok_t rfl)) (fun w' hS => ?_)
    have h1 := pickT (l := [_]) hS [0] rfl (by decide)
    exact ⟨-1, ⟨fun h0 => by omega, fun h0 => absurd (kids_nil.2 (fun i hi => hall i (by omega))) h0⟩, rfl, h1⟩

set_option maxRecDepth 100000 in
set_option maxHeartbeats 1000000 in
theorem contE {w0 w : World} {T : List Res} {kb k : Nat} (A : Option Addr) (n c : Nat) (ns : List (Int × Int)) (hS : St w0 w (blk kb [(.int .i64 ((k : Int)))] :: T)) (hr : Rd w0 A (ns.flatMap c2)) (hn : ns.length = n) (hm : n ≤ 140737488355328) :
    Calls Tryd.prog 26 #[.slice A n c, .func (.func 82) #[] #[.pointer (some ⟨kb, 0, none⟩)]] w fun e w' => ∃ q : Bool, (q = true ↔ ¬ (trOf ns).kids k = []) ∧ e = .returned (.bool q) ∧ St w0 w' (blk kb [(.int .i64 ((k : Int)))] :: T) := by
  refine calls_tr Tryd.func26 Tryd.ntmps26 rfl rfl hS ?_
  refine tr_seq ?_
  refine tr_region ?_
  refine tl_step rfl (oj_val (y_assign fe_c) ?_)
  refine tl_nil ?_
  refine tx_then ?_
  refine tr_seq ?_
  refine tr_region ?_
  refine tl_step rfl (oj_val (y_move (fe_t rfl)) ?_)
  refine tl_step rfl (oj_val (y_move (fe_t rfl)) ?_)
  refine tl_step rfl (oj_call2 Tryd.call54 fe_f (fel_cons (fe_t rfl) (fel_cons (fe_t rfl) fel_nil)) (fun w' hS => idxE A n c ns hS hr hn hm) (fun r hR => ?_))
  refine tl_step rfl (oj_val (y_geq (fe_t rfl) fe_c) ?_)
  refine tl_step rfl (oj_val (y_assign (fe_t rfl)) ?_)
  refine tl_nil ?_
  refine tx_then ?_
  refine tr_ret ?_
  refine tx_ret (res1 Tryd.results26 (rok_t rfl)) (fun w' hS => ?_)
  have h1 := pickT (l := [_]) hS [0] rfl (by decide)
  exact ⟨decide (0 ≤ r), ⟨fun h => hR.1 (of_decide_eq_true h), fun h => decide_eq_true (hR.2 h)⟩, rfl, h1⟩

set_option maxRecDepth 100000 in
set_option maxHeartbeats 2000000 in
theorem leaves_ok (A : Option Addr) (n c : Nat) (ns : List (Int × Int)) (w : World) (hr : Rd w A (ns.flatMap c2)) (hn : ns.length = n) (hm : n ≤ 140737488355328) (hw : wrongT ns = 0) :
    Calls Tryd.prog 55 #[.slice A n c] w fun e w' => ∃ r : Vs, (r.n = (leavesTo (trOf ns) n).length ∧ r.xs = cI (kI (leavesTo (trOf ns) n))) ∧ e = .returned (.tuple #[.slice r.A r.n r.c, (.int .i64 0)]) ∧ St w w' [vec 3 1 (.slice r.A r.n r.c) r.n r.xs] := by
  have hn16 := (good_of hw).n16
  rw [trOf_n] at hn16
  refine calls_tr Tryd.func55 Tryd.ntmps55 rfl rfl (St.refl _) ?_
  refine tr_seq ?_
  refine tr_region ?_
  refine tl_step rfl (oj_val (y_assign fe_c) ?_)
  refine tl_step rfl (oj_val (y_assign fe_c) ?_)
  refine tl_nil ?_
  refine tx_then ?_
  refine tr_seq ?_
  refine tr_seq ?_
  refine tr_region ?_
  refine tl_step rfl (oj_val (y_move (fe_t rfl)) ?_)
  refine tl_step rfl (oj_callv Tryd.call81 fe_f (fel_cons (fe_t rfl) fel_nil) (fun w' hS => treeWrongE A n c ns w' (Rd.below hr hS.below) hn hm) ?_)
  refine tl_step rfl (oj_val (y_assign (fe_t rfl)) ?_)
  refine tl_nil ?_
  refine tx_then ?_
  refine tr_seq ?_
  refine tr_region ?_
  refine tl_step rfl (oj_val (y_move (fe_t rfl)) ?_)
  refine tl_step rfl (oj_val (y_neq (fe_t rfl) fe_c) ?_)
  refine tl_nil ?_
  refine tx_then ?_
  refine tr_condp (fe_t rfl) (fun hq1 => ?_) (fun hq2 => ?_)
  · exact absurd hw hq1
  · refine tr_skip ?_
    refine tx_then ?_
    refine tr_seq ?_
    refine tr_region ?_
    refine tl_step rfl (oj_val (y_assign fe_c) ?_)
    refine tl_nil ?_
    refine tx_then ?_
    refine tr_seq ?_
    refine tr_seq ?_
    refine tr_region ?_
    refine tl_step rfl (oj_val (y_move (fe_t rfl)) ?_)
    refine tl_step rfl (oj_val (y_len Tryd.underlying67 (fe_t rfl)) ?_)
    refine tl_step rfl (oj_val (y_move fe_c) ?_)
    refine tl_nil ?_
    refine tx_then ?_
    refine tr_block ?_
    refine tr_add (r := vec 3 1 (.slice none 0 0) 0 []) vec_nil rfl ?_
    refine tr_loop2 [5, 6, 14, 15, 16, 17, 18, 19, 20, 21, 22, 23, 24, 25] (fun (k : Nat) (z1 : Vs) => [(14, .int .i64 (k : Int)), (5, .slice z1.A z1.n z1.c)]) 0 (fun (k : Nat) (z1 : Vs) => [(0, vec 3 1 (.slice z1.A z1.n z1.c) z1.n z1.xs)]) (fun (k : Nat) (z1 : Vs) => k ≤ n ∧ z1.n = (leavesTo (trOf ns) k).length ∧ z1.xs = cI (kI (leavesTo (trOf ns) k))) (fun (k : Nat) (z1 : Vs) => n - k) (0) (⟨none, 0, 0, []⟩ : Vs) (cov_cons (by first | rfl | exact v_int (by omega) | exact v_bool (by simp [*])) (cov_cons (by first | rfl | exact v_int (by omega) | exact v_bool (by simp [*])) (cov_nil))) (fun w h => h) ?_ ?_
    · try dsimp only
      exact ⟨by omega, rfl, rfl⟩
    intro k z1 hp
    obtain ⟨hk, hzn, hzx⟩ := hp
    have hll := leaves_len (t := trOf ns) (k := k)
    refine tr_seq ?_
    refine tr_region ?_
    refine tl_step rfl (oj_val (y_lss (fe_t rfl) (fe_t rfl)) ?_)
    refine tl_nil ?_
    refine tx_then ?_
    refine tr_seq ?_
    refine tr_condp (fe_t rfl) (fun hq3 => ?_) (fun hq4 => ?_)
    · refine tr_skip ?_
      refine tx_then ?_
      refine tr_seq ?_
      refine tr_block ?_
      refine tr_seq ?_
      refine tr_region ?_
      refine tl_step rfl (oj_val (y_move (fe_t rfl)) ?_)
      refine tl_step rfl (oj_alloc Tryd.zeroValue3 (fun kb => ?_))
      refine tl_step rfl (oj_store1 0 Tryd.sizeOf3 (fe_t rfl) (fe_t rfl) rfl rfl rfl rfl (?_))
      refine tl_nil ?_
      refine tx_then ?_
      refine tr_seq ?_
      refine tr_region ?_
      refine tl_step rfl (oj_val (y_move (fe_t rfl)) ?_)
      refine tl_step rfl (oj_val (y_makeFunc (fel_cons (fe_t rfl) fel_nil)) ?_)
      refine tl_step rfl (oj_call2 Tryd.call26 fe_f (fel_cons (fe_t rfl) (fel_cons (fe_t rfl) fel_nil)) (fun w' hS => contE A n c ns (hS.pick [0, 1] [_, _] rfl (by decide)) hr hn hm) (fun q hQ => ?_))
      refine tl_step rfl (oj_val (y_not (fe_t rfl)) ?_)
      refine tl_nil ?_
      refine tx_then ?_
      refine tr_cond (fe_t rfl) (fun hq5 => ?_) (fun hq6 => ?_)
      · have hc : (trOf ns).kids k = [] := Classical.not_not.1 (fun h0 => by have h1 := hQ.2 h0; have h2 := hq5; simp [h1] at h2)
        refine tr_region ?_
        refine tl_step rfl (oj_val (y_move (fe_t rfl)) ?_)
        refine tl_step rfl (oj_val (y_ldb 0 Tryd.isAgg3 (fe_t rfl) rfl rfl) ?_)
        refine tl_step rfl (oj_slice1 Tryd.underlying39 Tryd.sizeOf3 Tryd.zeroValue3 (fe_t rfl) (by decide) rfl (fun b1 => ?_))
        refine tl_step rfl (oj_append (i := 2) (s := 1) (z := (.int .i64 0)) (bytes := 8) Tryd.underlying39 (by kernel_rfl) (fe_t rfl) (fe_t rfl) rfl (rdl_blk 0 rfl) rfl (by decide) (by first | exact oneI | exact oneF (fun _ => rfl) | exact fun u hu => List.all_eq_true.1 (show List.all _ (fun x => x.oneCell') = true from rfl) u hu | (intro u hu; revert u hu; simp [Value.oneCell'])) (by decide) ⟨by omega, by decide⟩ (fun Aa1 ca1 hca1 => ?_))
        refine tl_step rfl (oj_val (y_assign (fe_t rfl)) ?_)
        refine tl_nil ?_
        refine tx_in ?_
        refine tx_then ?_
        refine tr_region ?_
        refine tl_step rfl (oj_val (y_inc (fe_t rfl) fe_c (by omega)) ?_)
        refine tl_step rfl (oj_val (y_move (fe_t rfl)) ?_)
        refine tl_nil ?_
        apply tx_back2 (k + 1) ((⟨_, _, _, _⟩ : Vs))
        · exact (cov_cons (by first | rfl | exact v_int (by omega) | exact v_bool (by simp [*])) (cov_cons (by first | rfl | exact v_int (by omega) | exact v_bool (by simp [*])) (cov_nil)))
        · repeat (first | exact over_nil | refine over_put rfl ?_ | refine over_drop rfl ?_)
        · exact fun w h => h.pick [2] _ rfl (by decide)
        · refine ⟨⟨by omega, ?_⟩, by omega⟩
          rw [leaves_step, decide_eq_true hc]
          exact ⟨by dsimp only; simp; omega, by dsimp only; rw [hzx]; simp [kI, cI]; rfl⟩
      · have hc : ¬ (trOf ns).kids k = [] := hQ.1 (by have h2 := hq6; simpa using h2)
        refine tr_skip ?_
        refine tx_in ?_
        refine tx_then ?_
        refine tr_region ?_
        refine tl_step rfl (oj_val (y_inc (fe_t rfl) fe_c (by omega)) ?_)
        refine tl_step rfl (oj_val (y_move (fe_t rfl)) ?_)
        refine tl_nil ?_
        apply tx_back2 (k + 1) ((⟨_, _, _, _⟩ : Vs))
        · exact (cov_cons (by first | rfl | exact v_int (by omega) | exact v_bool (by simp [*])) (cov_cons (by first | rfl | exact v_int (by omega) | exact v_bool (by simp [*])) (cov_nil)))
        · repeat (first | exact over_nil | refine over_put rfl ?_ | refine over_drop rfl ?_)
        · exact fun w h => h.pick [1] _ rfl (by decide)
        · refine ⟨⟨by omega, ?_⟩, by omega⟩
          rw [leaves_step, decide_eq_false hc]
          exact ⟨by dsimp only; simp; omega, by dsimp only; rw [hzx]; simp⟩
    · refine tr_exit ?_
      refine tx_then_exit ?_
      refine tx_then_exit ?_
      refine tx_in_exit ?_
      refine tx_then ?_
      refine tr_seq ?_
      refine tr_region ?_
      refine tl_step rfl (oj_val (y_move (fe_t rfl)) ?_)
      refine tl_step rfl (oj_val (y_assign (fe_t rfl)) ?_)
      refine tl_step rfl (oj_val (y_assign fe_c) ?_)
      refine tl_nil ?_
      refine tx_then ?_
      refine tr_ret ?_
      refine tx_ret (res2 Tryd.results55 (rok_t rfl) (rok_t rfl)) (fun w' hS => ?_)
      exact ⟨z1, ⟨by rw [hzn, show k = n by omega], by rw [hzx, show k = n by omega]⟩, rfl, hS.pick [0] _ rfl (by decide)⟩

set_option maxRecDepth 100000 in
set_option maxHeartbeats 2000000 in
theorem leaves_bad (A : Option Addr) (n c : Nat) (ns : List (Int × Int)) (w : World) (hr : Rd w A (ns.flatMap c2)) (hn : ns.length = n) (hm : n ≤ 140737488355328) (hw : ¬ wrongT ns = 0) :
    Calls Tryd.prog 55 #[.slice A n c] w fun e w' => e = .returned (.tuple #[.slice none 0 0, (.int .i64 (wrongT ns))]) ∧ St w w' [] := by
  refine calls_tr Tryd.func55 Tryd.ntmps55 rfl rfl (St.refl _) ?_
  refine tr_seq ?_
  refine tr_region ?_
  refine tl_step rfl (oj_val (y_assign fe_c) ?_)
  refine tl_step rfl (oj_val (y_assign fe_c) ?_)
  refine tl_nil ?_
  refine tx_then ?_
  refine tr_seq ?_
  refine tr_seq ?_
  refine tr_region ?_
  refine tl_step rfl (oj_val (y_move (fe_t rfl)) ?_)
  refine tl_step rfl (oj_callv Tryd.call81 fe_f (fel_cons (fe_t rfl) fel_nil) (fun w' hS => treeWrongE A n c ns w' (Rd.below hr hS.below) hn hm) ?_)
  refine tl_step rfl (oj_val (y_assign (fe_t rfl)) ?_)
  refine tl_nil ?_
  refine tx_then ?_
  refine tr_seq ?_
  refine tr_region ?_
  refine tl_step rfl (oj_val (y_move (fe_t rfl)) ?_)
  refine tl_step rfl (oj_val (y_neq (fe_t rfl) fe_c) ?_)
  refine tl_nil ?_
  refine tx_then ?_
  refine tr_condp (fe_t rfl) (fun hq1 => ?_) (fun hq2 => ?_)
  · refine tr_seq ?_
    refine tr_region ?_
    refine tl_step rfl (oj_val (y_move (fe_t rfl)) ?_)
    refine tl_step rfl (oj_val (y_assign fe_c) ?_)
    refine tl_step rfl (oj_val (y_assign (fe_t rfl)) ?_)
    refine tl_nil ?_
    refine tx_then ?_
    refine tr_ret ?_
    refine tx_then_ret ?_
    refine tx_ret (res2 Tryd.results55 (rok_t rfl) (rok_t rfl)) (fun w' hS => ?_)
    exact ⟨rfl, hS.pick [] _ rfl (by decide)⟩
  · exact absurd (by simpa using hq2) hw

end Go.Proofs.YtfcpmcdlgkfolaaDoor.Hier
