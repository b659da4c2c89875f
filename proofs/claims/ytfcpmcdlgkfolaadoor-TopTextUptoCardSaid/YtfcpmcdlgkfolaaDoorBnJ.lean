/- Walks: a script printed. -/
import Derived.Test.YtfcpmcdlgkfolaaDoorBnI
import Derived.Test.YtfcpmcdlgkfolaaDoorEU
namespace Go.Proofs.YtfcpmcdlgkfolaaDoor.Bn
open Go.RowKit Go.Lib Go.Proofs.YtfcpmcdlgkfolaaDoor.E

set_option maxRecDepth 100000 in
set_option maxHeartbeats 4000000 in
theorem printE {w : World} (hw : Gw w) (a b c : Int) (ops : List (Int × Int)) (A : Option Addr) (n m : Nat) (hr : Rd w A (ops.flatMap c2i)) (hn : ops.length = n) (hm : n ≤ 100000000) :
    Calls Tryd.prog 9 #[.agg #[(.int .i64 a), (.int .i64 b), (.int .i64 c), .slice A n m]] w fun e w' => e = .returned (.tuple #[str (prR [a, b, c] ops).1, (.int .i64 ((prR [a, b, c] ops).2))]) ∧ St w w' [] := by
  refine calls_tr Tryd.func9 Tryd.ntmps9 rfl rfl (St.refl _) ?_
  refine tr_seq ?_
  refine tr_region ?_
  refine tl_step rfl (oj_boxT (fe_t rfl) (fun tb => ?_))
  refine tl_step rfl (oj_val (y_assign fe_c) ?_)
  refine tl_step rfl (oj_val (y_assign fe_c) ?_)
  refine tl_nil ?_
  refine tx_then ?_
  refine tr_seq ?_
  refine tr_seq ?_
  refine tr_region ?_
  refine tl_step rfl (oj_val (y_fieldAddr (td := 3) Tryd.underlying24 rfl rfl Tryd.sizeOf3 (o' := 0) rfl (fe_t rfl)) ?_)
  refine tl_step rfl (oj_val (y_ldT 0 Tryd.isAgg3 (fe_t rfl) rfl rfl) ?_)
  refine tl_step rfl (oj_callv Tryd.call34 fe_f (fel_cons (fe_t rfl) fel_nil) (fun w' hS => smallE a w') ?_)
  refine tl_step rfl (oj_val (y_notp (fe_t rfl)) ?_)
  refine tl_step rfl (oj_val (y_move (fe_t rfl)) ?_)
  refine tl_splitp (d := 11) rfl (fun hq1 => ?_) (fun hq2 => ?_)
  · try (exfalso; omega)
    all_goals
      refine tl_skip rfl rfl rfl rfl ?_
      refine tl_skip rfl rfl rfl rfl ?_
      refine tl_skip rfl rfl rfl rfl ?_
      refine tl_skip rfl rfl rfl rfl ?_
      refine tl_step rfl (oj_val (y_pickt (fe_t rfl) fe_c) ?_)
      refine tl_step rfl (oj_val (y_move (fe_t rfl)) ?_)
      refine tl_skip rfl rfl rfl rfl ?_
      refine tl_skip rfl rfl rfl rfl ?_
      refine tl_skip rfl rfl rfl rfl ?_
      refine tl_skip rfl rfl rfl rfl ?_
      refine tl_step rfl (oj_val (y_pickt (fe_t rfl) fe_c) ?_)
      refine tl_nil ?_
      refine tx_then ?_
      refine tr_condt (fe_t rfl) ?_
      refine tr_seq ?_
      refine tr_region ?_
      refine tl_step rfl (oj_val (y_assign fe_c) ?_)
      refine tl_step rfl (oj_val (y_assign fe_c) ?_)
      refine tl_nil ?_
      refine tx_then ?_
      refine tr_ret ?_
      refine tx_then_ret ?_
      refine tx_ret (res2 Tryd.results9 (rok_t rfl) (rok_t rfl)) (fun w' hS => ?_)
      rw [pr_head (l := [a, b, c]) (i := 0) (by simp) (okI_f (by simp; omega))]
      exact ⟨rfl, hS.pick [] _ rfl (by decide)⟩
  · try (exfalso; omega)
    all_goals
      refine tl_want rfl rfl rfl (oj_val (y_fieldAddr (td := 3) Tryd.underlying24 rfl rfl Tryd.sizeOf3 (o' := 1) rfl (fe_t rfl)) ?_)
      refine tl_want rfl rfl rfl (oj_val (y_ldT 0 Tryd.isAgg3 (fe_t rfl) rfl rfl) ?_)
      refine tl_want rfl rfl rfl (oj_callv Tryd.call34 fe_f (fel_cons (fe_t rfl) fel_nil) (fun w' hS => smallE b w') ?_)
      refine tl_want rfl rfl rfl (oj_val (y_notp (fe_t rfl)) ?_)
      refine tl_step rfl (oj_val (y_pickf (fe_t rfl) (fe_t rfl)) ?_)
      refine tl_step rfl (oj_val (y_move (fe_t rfl)) ?_)
      refine tl_splitp (d := 17) rfl (fun hq3 => ?_) (fun hq4 => ?_)
      · try (exfalso; omega)
        all_goals
          refine tl_skip rfl rfl rfl rfl ?_
          refine tl_skip rfl rfl rfl rfl ?_
          refine tl_skip rfl rfl rfl rfl ?_
          refine tl_skip rfl rfl rfl rfl ?_
          refine tl_step rfl (oj_val (y_pickt (fe_t rfl) fe_c) ?_)
          refine tl_nil ?_
          refine tx_then ?_
          refine tr_condt (fe_t rfl) ?_
          refine tr_seq ?_
          refine tr_region ?_
          refine tl_step rfl (oj_val (y_assign fe_c) ?_)
          refine tl_step rfl (oj_val (y_assign fe_c) ?_)
          refine tl_nil ?_
          refine tx_then ?_
          refine tr_ret ?_
          refine tx_then_ret ?_
          refine tx_ret (res2 Tryd.results9 (rok_t rfl) (rok_t rfl)) (fun w' hS => ?_)
          rw [pr_head (l := [a, b, c]) (i := 1) (by simp) (okI_f (by simp; omega))]
          exact ⟨rfl, hS.pick [] _ rfl (by decide)⟩
      · try (exfalso; omega)
        all_goals
          refine tl_want rfl rfl rfl (oj_val (y_fieldAddr (td := 3) Tryd.underlying24 rfl rfl Tryd.sizeOf3 (o' := 2) rfl (fe_t rfl)) ?_)
          refine tl_want rfl rfl rfl (oj_val (y_ldT 0 Tryd.isAgg3 (fe_t rfl) rfl rfl) ?_)
          refine tl_want rfl rfl rfl (oj_callv Tryd.call34 fe_f (fel_cons (fe_t rfl) fel_nil) (fun w' hS => smallE c w') ?_)
          refine tl_want rfl rfl rfl (oj_val (y_notp (fe_t rfl)) ?_)
          refine tl_step rfl (oj_val (y_pickf (fe_t rfl) (fe_t rfl)) ?_)
          refine tl_nil ?_
          refine tx_then ?_
          refine tr_condp (fe_t rfl) (fun hq5 => ?_) (fun hq6 => ?_)
          · try (exfalso; omega)
            all_goals
              refine tr_seq ?_
              refine tr_region ?_
              refine tl_step rfl (oj_val (y_assign fe_c) ?_)
              refine tl_step rfl (oj_val (y_assign fe_c) ?_)
              refine tl_nil ?_
              refine tx_then ?_
              refine tr_ret ?_
              refine tx_then_ret ?_
              refine tx_ret (res2 Tryd.results9 (rok_t rfl) (rok_t rfl)) (fun w' hS => ?_)
              rw [pr_head (l := [a, b, c]) (i := 2) (by simp) (okI_f (by simp; omega))]
              exact ⟨rfl, hS.pick [] _ rfl (by decide)⟩
          · try (exfalso; omega)
            all_goals
              refine tr_skip ?_
              refine tx_then ?_
              refine tr_seq ?_
              refine tr_region ?_
              refine tl_step rfl (oj_allocB (fun bl => ?_))
              refine tl_nil ?_
              refine tx_then ?_
              refine tr_seq ?_
              have hl3 : [a, b, c].all okI = true := by simp [okI_t (n := a) (by omega) (by omega), okI_t (n := b) (by omega) (by omega), okI_t (n := c) (by omega) (by omega)]
              refine tb_draw 15 (sel _ [1]) (fun w h => h.sel _ rfl (by decide)) rfl ?_
              refine tb_float (i := 0) rfl (by kernel_rfl) rfl (wants_none rfl) (yq_of (y_fieldAddr (td := 3) Tryd.underlying24 rfl rfl Tryd.sizeOf3 (o' := 0) rfl (fe_t rfl))) ?_
              refine tb_float (i := 1) rfl (by kernel_rfl) rfl (wants_none rfl) (yq_of (y_ldT 0 Tryd.isAgg3 (fe_t rfl) rfl rfl)) ?_
              refine tb_float (i := 2) rfl (by kernel_rfl) rfl (wants_none rfl) (yq_call Tryd.call20 fe_f (fel_cons (fe_t rfl) fel_nil) (fun w' hS => itoaE (hw.st hS) a (by omega) (by omega))) ?_
              refine tb_float (i := 3) rfl (by kernel_rfl) rfl (wants_none rfl) (yq_of (y_cat fe_c (fe_t rfl) (by have q1 := itoa_len (okI_t (n := a) (by omega) (by omega)); have q2 := itoa_len (okI_t (n := b) (by omega) (by omega)); have q3 := itoa_len (okI_t (n := c) (by omega) (by omega)); simp; omega))) ?_
              refine tb_float (i := 4) rfl (by kernel_rfl) rfl (wants_none rfl) (yq_of (y_cat (fe_t rfl) fe_c (by have q1 := itoa_len (okI_t (n := a) (by omega) (by omega)); have q2 := itoa_len (okI_t (n := b) (by omega) (by omega)); have q3 := itoa_len (okI_t (n := c) (by omega) (by omega)); simp; omega))) ?_
              refine tb_float (i := 5) rfl (by kernel_rfl) rfl (wants_none rfl) (yq_of (y_fieldAddr (td := 3) Tryd.underlying24 rfl rfl Tryd.sizeOf3 (o' := 1) rfl (fe_t rfl))) ?_
              refine tb_float (i := 6) rfl (by kernel_rfl) rfl (wants_none rfl) (yq_of (y_ldT 0 Tryd.isAgg3 (fe_t rfl) rfl rfl)) ?_
              refine tb_float (i := 7) rfl (by kernel_rfl) rfl (wants_none rfl) (yq_call Tryd.call20 fe_f (fel_cons (fe_t rfl) fel_nil) (fun w' hS => itoaE (hw.st hS) b (by omega) (by omega))) ?_
              refine tb_float (i := 8) rfl (by kernel_rfl) rfl (wants_none rfl) (yq_of (y_cat (fe_t rfl) (fe_t rfl) (by have q1 := itoa_len (okI_t (n := a) (by omega) (by omega)); have q2 := itoa_len (okI_t (n := b) (by omega) (by omega)); have q3 := itoa_len (okI_t (n := c) (by omega) (by omega)); simp; omega))) ?_
              refine tb_float (i := 9) rfl (by kernel_rfl) rfl (wants_none rfl) (yq_of (y_cat (fe_t rfl) fe_c (by have q1 := itoa_len (okI_t (n := a) (by omega) (by omega)); have q2 := itoa_len (okI_t (n := b) (by omega) (by omega)); have q3 := itoa_len (okI_t (n := c) (by omega) (by omega)); simp; omega))) ?_
              refine tb_float (i := 10) rfl (by kernel_rfl) rfl (wants_none rfl) (yq_of (y_fieldAddr (td := 3) Tryd.underlying24 rfl rfl Tryd.sizeOf3 (o' := 2) rfl (fe_t rfl))) ?_
              refine tb_float (i := 11) rfl (by kernel_rfl) rfl (wants_none rfl) (yq_of (y_ldT 0 Tryd.isAgg3 (fe_t rfl) rfl rfl)) ?_
              refine tb_float (i := 12) rfl (by kernel_rfl) rfl (wants_none rfl) (yq_call Tryd.call20 fe_f (fel_cons (fe_t rfl) fel_nil) (fun w' hS => itoaE (hw.st hS) c (by omega) (by omega))) ?_
              refine tb_float (i := 13) rfl (by kernel_rfl) rfl (wants_none rfl) (yq_of (y_cat (fe_t rfl) (fe_t rfl) (by have q1 := itoa_len (okI_t (n := a) (by omega) (by omega)); have q2 := itoa_len (okI_t (n := b) (by omega) (by omega)); have q3 := itoa_len (okI_t (n := c) (by omega) (by omega)); simp; omega))) ?_
              refine tb_float (i := 14) rfl (by kernel_rfl) rfl (wants_none rfl) (yq_of (y_cat (fe_t rfl) fe_c (by have q1 := itoa_len (okI_t (n := a) (by omega) (by omega)); have q2 := itoa_len (okI_t (n := b) (by omega) (by omega)); have q3 := itoa_len (okI_t (n := c) (by omega) (by omega)); simp; omega))) ?_
              refine tb_one2 (i := 15) rfl (by kernel_rfl) (by kernel_rfl) (wants_none rfl) (oj_call2 Tryd.call35 fe_f (fel_cons (fe_t rfl) (fel_cons (fe_t rfl) fel_nil)) (fun w' hS => wsM (hS.pick [0, 1] _ rfl (by decide)) (ws_one (by decide)) _ (by have q1 := itoa_len (okI_t (n := a) (by omega) (by omega)); have q2 := itoa_len (okI_t (n := b) (by omega) (by omega)); have q3 := itoa_len (okI_t (n := c) (by omega) (by omega)); simp; omega)) (fun g_h _ => ⟨fun w h => h.pick [1] _ rfl (by decide), ?_⟩))
              refine tb_done (by kernel_rfl) ?_
              refine tx_then ?_
              refine tr_seq ?_
              refine tr_seq ?_
              refine tr_norm (L' := [bld bl _ (headI [a, b, c] ++ 10 :: (ops.take 0).flatMap opI), _]) (fun w h => h.txt rfl (by simp [headI, sRate, numI])) ?_
              refine tr_region ?_
              refine tl_step rfl (oj_val (y_fieldAddr (td := 22) Tryd.underlying24 rfl rfl Tryd.sizeOf22 (o' := 3) rfl (fe_t rfl)) ?_)
              refine tl_step rfl (oj_val (y_ldT 1 Tryd.isAgg22 (fe_t rfl) rfl rfl) ?_)
              refine tl_step rfl (oj_val (y_len Tryd.underlying22 (fe_t rfl)) ?_)
              refine tl_step rfl (oj_val (y_move fe_c) ?_)
              refine tl_nil ?_
              refine tx_then ?_
              refine tr_block ?_
              refine tr_loop2 [2, 3, 6, 42, 43, 44, 45, 46, 47, 48, 49, 50, 51, 52, 53, 54, 55, 56, 57, 58, 59, 60, 61, 62, 63, 64, 65, 66, 67, 68, 69, 70, 71, 72, 73] (fun (i : Nat) (g : Option Nat) => [(42, .int .i64 (i : Int))]) 0 (fun (i : Nat) (g : Option Nat) => [(0, bld bl g (headI [a, b, c] ++ 10 :: (ops.take i).flatMap opI))]) (fun (i : Nat) (g : Option Nat) => i ≤ n ∧ (ops.take i).all okO = true) (fun (i : Nat) (g : Option Nat) => n - i) (0) (_) (cov_cons (by first | rfl | exact v_int (by omega) | exact v_bool (by simp [*])) (cov_nil)) (fun w h => h) ?_ ?_
              · try dsimp only
                exact ⟨by omega, rfl⟩
              intro i g hp
              obtain ⟨hi, hok⟩ := hp
              refine tr_seq ?_
              refine tr_region ?_
              refine tl_step rfl (oj_val (y_lss (fe_t rfl) (fe_t rfl)) ?_)
              refine tl_nil ?_
              refine tx_then ?_
              refine tr_seq ?_
              refine tr_condp (fe_t rfl) (fun hq7 => ?_) (fun hq8 => ?_)
              · try (exfalso; omega)
                all_goals
                  refine tr_skip ?_
                  refine tx_then ?_
                  refine tr_seq ?_
                  refine tr_block ?_
                  refine tr_seq ?_
                  refine tr_region ?_
                  refine tl_step rfl (oj_val (y_index Tryd.underlying22 Tryd.sizeOf52 (fe_t rfl) (fe_t rfl) (rdl_out hr) (by rw [flat2_len]; omega) (by decide) (by omega) rfl) ?_)
                  refine tl_step rfl (oj_val (y_ldA Tryd.isAgg52 Tryd.sizeOf52 (fe_t rfl) (rdl_out hr) rfl (by decide) (getF (c := c2i) (l := ops) (fun _ => rfl) (by omega))) ?_)
                  refine tl_step rfl (oj_allocT Tryd.zeroValue52 (fun op => ?_))
                  refine tl_step rfl (oj_storeT 0 Tryd.sizeOf52 (fe_t rfl) (fe_t rfl) rfl rfl rfl rfl rfl (?_))
                  refine tl_nil ?_
                  refine tx_then ?_
                  refine tr_seq ?_
                  refine tr_seq ?_
                  refine tr_region ?_
                  refine tl_step rfl (oj_val (y_fieldAddr (td := 3) Tryd.underlying52 rfl rfl Tryd.sizeOf3 (o' := 0) rfl (fe_t rfl)) ?_)
                  refine tl_step rfl (oj_val (y_ldT 0 Tryd.isAgg3 (fe_t rfl) rfl rfl) ?_)
                  refine tl_step rfl (oj_val (y_lss (fe_t rfl) fe_c) ?_)
                  refine tl_step rfl (oj_val (y_move (fe_t rfl)) ?_)
                  refine tl_splitp (d := 49) rfl (fun hq9 => ?_) (fun hq10 => ?_)
                  · try (exfalso; omega)
                    all_goals
                      refine tl_skip rfl rfl rfl rfl ?_
                      refine tl_skip rfl rfl rfl rfl ?_
                      refine tl_skip rfl rfl rfl rfl ?_
                      refine tl_step rfl (oj_val (y_pickt (fe_t rfl) fe_c) ?_)
                      refine tl_step rfl (oj_val (y_move (fe_t rfl)) ?_)
                      refine tl_skip rfl rfl rfl rfl ?_
                      refine tl_skip rfl rfl rfl rfl ?_
                      refine tl_skip rfl rfl rfl rfl ?_
                      refine tl_skip rfl rfl rfl rfl ?_
                      refine tl_step rfl (oj_val (y_pickt (fe_t rfl) fe_c) ?_)
                      refine tl_nil ?_
                      refine tx_then ?_
                      refine tr_condt (fe_t rfl) ?_
                      refine tr_seq ?_
                      refine tr_region ?_
                      refine tl_step rfl (oj_val (y_assign fe_c) ?_)
                      refine tl_step rfl (oj_val (y_assign fe_c) ?_)
                      refine tl_nil ?_
                      refine tx_then ?_
                      refine tr_ret ?_
                      refine tx_then_ret ?_
                      refine tx_in_ret ?_
                      refine tx_then_ret ?_
                      refine tx_then_ret ?_
                      refine tx_in_ret ?_
                      refine tx_then_ret ?_
                      refine tx_ret (res2 Tryd.results9 (rok_t rfl) (rok_t rfl)) (fun w' hS => ?_)
                      rw [pr_op (i := i) (by omega) (okO_f (.inl (by omega)))]
                      exact ⟨rfl, hS.pick [] _ rfl (by decide)⟩
                  · try (exfalso; omega)
                    all_goals
                      refine tl_want rfl rfl rfl (oj_val (y_fieldAddr (td := 3) Tryd.underlying52 rfl rfl Tryd.sizeOf3 (o' := 0) rfl (fe_t rfl)) ?_)
                      refine tl_want rfl rfl rfl (oj_val (y_ldT 0 Tryd.isAgg3 (fe_t rfl) rfl rfl) ?_)
                      refine tl_want rfl rfl rfl (oj_val (y_gtr (fe_t rfl) fe_c) ?_)
                      refine tl_step rfl (oj_val (y_pickf (fe_t rfl) (fe_t rfl)) ?_)
                      refine tl_step rfl (oj_val (y_move (fe_t rfl)) ?_)
                      refine tl_splitp (d := 54) rfl (fun hq11 => ?_) (fun hq12 => ?_)
                      · try (exfalso; omega)
                        all_goals
                          refine tl_skip rfl rfl rfl rfl ?_
                          refine tl_skip rfl rfl rfl rfl ?_
                          refine tl_skip rfl rfl rfl rfl ?_
                          refine tl_skip rfl rfl rfl rfl ?_
                          refine tl_step rfl (oj_val (y_pickt (fe_t rfl) fe_c) ?_)
                          refine tl_nil ?_
                          refine tx_then ?_
                          refine tr_condt (fe_t rfl) ?_
                          refine tr_seq ?_
                          refine tr_region ?_
                          refine tl_step rfl (oj_val (y_assign fe_c) ?_)
                          refine tl_step rfl (oj_val (y_assign fe_c) ?_)
                          refine tl_nil ?_
                          refine tx_then ?_
                          refine tr_ret ?_
                          refine tx_then_ret ?_
                          refine tx_in_ret ?_
                          refine tx_then_ret ?_
                          refine tx_then_ret ?_
                          refine tx_in_ret ?_
                          refine tx_then_ret ?_
                          refine tx_ret (res2 Tryd.results9 (rok_t rfl) (rok_t rfl)) (fun w' hS => ?_)
                          rw [pr_op (i := i) (by omega) (okO_f (.inr (.inl (by omega))))]
                          exact ⟨rfl, hS.pick [] _ rfl (by decide)⟩
                      · try (exfalso; omega)
                        all_goals
                          refine tl_want rfl rfl rfl (oj_val (y_fieldAddr (td := 3) Tryd.underlying52 rfl rfl Tryd.sizeOf3 (o' := 1) rfl (fe_t rfl)) ?_)
                          refine tl_want rfl rfl rfl (oj_val (y_ldT 0 Tryd.isAgg3 (fe_t rfl) rfl rfl) ?_)
                          refine tl_want rfl rfl rfl (oj_callv Tryd.call34 fe_f (fel_cons (fe_t rfl) fel_nil) (fun w' hS => smallE ops[i].2 w') ?_)
                          refine tl_want rfl rfl rfl (oj_val (y_notp (fe_t rfl)) ?_)
                          refine tl_step rfl (oj_val (y_pickf (fe_t rfl) (fe_t rfl)) ?_)
                          refine tl_nil ?_
                          refine tx_then ?_
                          refine tr_condp (fe_t rfl) (fun hq13 => ?_) (fun hq14 => ?_)
                          · try (exfalso; omega)
                            all_goals
                              refine tr_seq ?_
                              refine tr_region ?_
                              refine tl_step rfl (oj_val (y_assign fe_c) ?_)
                              refine tl_step rfl (oj_val (y_assign fe_c) ?_)
                              refine tl_nil ?_
                              refine tx_then ?_
                              refine tr_ret ?_
                              refine tx_then_ret ?_
                              refine tx_in_ret ?_
                              refine tx_then_ret ?_
                              refine tx_then_ret ?_
                              refine tx_in_ret ?_
                              refine tx_then_ret ?_
                              refine tx_ret (res2 Tryd.results9 (rok_t rfl) (rok_t rfl)) (fun w' hS => ?_)
                              rw [pr_op (i := i) (by omega) (okO_f (.inr (.inr (okI_f (by omega)))))]
                              exact ⟨rfl, hS.pick [] _ rfl (by decide)⟩
                          · try (exfalso; omega)
                            all_goals
                              refine tr_skip ?_
                              refine tx_then ?_
                              refine tb_draw 12 (sel _ [0, 2]) (fun w h => h.sel _ rfl (by decide)) rfl ?_
                              refine tb_float (i := 1) rfl (by kernel_rfl) rfl (wants_none rfl) (yq_of (y_fieldAddr (td := 3) Tryd.underlying52 rfl rfl Tryd.sizeOf3 (o' := 0) rfl (fe_t rfl))) ?_
                              refine tb_float (i := 2) rfl (by kernel_rfl) rfl (wants_none rfl) (yq_of (y_ldT 0 Tryd.isAgg3 (fe_t rfl) rfl rfl)) ?_
                              refine tb_float (i := 3) rfl (by kernel_rfl) rfl (wants_none rfl) (yq_of (y_sub (fe_t rfl) fe_c (by omega))) ?_
                              refine tb_float (i := 7) rfl (by kernel_rfl) rfl (wants_none rfl) (yq_of (y_fieldAddr (td := 3) Tryd.underlying52 rfl rfl Tryd.sizeOf3 (o' := 1) rfl (fe_t rfl))) ?_
                              refine tb_float (i := 8) rfl (by kernel_rfl) rfl (wants_none rfl) (yq_of (y_ldT 0 Tryd.isAgg3 (fe_t rfl) rfl rfl)) ?_
                              refine tb_one1 (i := 0) rfl (by kernel_rfl) (by kernel_rfl) (wants_none rfl) (oj_call Tryd.call36 fe_f fel_nil (fun w' hS => wordsE w') (fun r3 hr3 => ⟨fun w h => h.pick [1, 2, 3] _ rfl (by decide), ?_⟩))
                              refine tb_float (i := 9) rfl (by kernel_rfl) rfl (wants_none rfl) (yq_call Tryd.call20 fe_f (fel_cons (fe_t rfl) fel_nil) (fun w' hS => itoaE (hw.st hS) ops[i].2 (by omega) (by omega))) ?_
                              refine tb_one1 (i := 4) rfl (by kernel_rfl) (by kernel_rfl) (wants_none rfl) (oj_val (y_indexI Tryd.underlying32 Tryd.sizeOf9 (fe_t rfl) (fe_t rfl) (rdl_vec 0 rfl) (by rw [hr3.2, hr3.1]; rfl) (by decide) (by omega) (by omega) (Nat.mul_one _)) (⟨fun w h => h.pick [1, 2, 3] _ rfl (by decide), ?_⟩))
                              refine tb_one1 (i := 5) rfl (by kernel_rfl) (by kernel_rfl) (wants_none rfl) (oj_val (y_ld Tryd.isAgg9 (fe_t rfl) (rdl_vec 0 rfl) (by rw [hr3.2]; exact kw_get (by omega) (by omega))) (⟨fun w h => h.pick [1, 2, 3] _ rfl (by decide), ?_⟩))
                              refine tb_float (i := 6) rfl (by kernel_rfl) rfl (wants_none rfl) (yq_of (y_cat (fe_t rfl) fe_c (by have q1 := itoa_len (okI_t (n := ops[i].2) (by omega) (by omega)); have q2 := kw_len (k := ops[i].1); have q3 := headI_len hl3; have q4 := flat_len (f := opI) (g := okO) (m := 27) (fun _ h => opI_len h) hok; rw [List.length_take] at q4; simp at q3 q4 ⊢; omega))) ?_
                              refine tb_float (i := 10) rfl (by kernel_rfl) rfl (wants_none rfl) (yq_of (y_cat (fe_t rfl) (fe_t rfl) (by have q1 := itoa_len (okI_t (n := ops[i].2) (by omega) (by omega)); have q2 := kw_len (k := ops[i].1); have q3 := headI_len hl3; have q4 := flat_len (f := opI) (g := okO) (m := 27) (fun _ h => opI_len h) hok; rw [List.length_take] at q4; simp at q3 q4 ⊢; omega))) ?_
                              refine tb_float (i := 11) rfl (by kernel_rfl) rfl (wants_none rfl) (yq_of (y_cat (fe_t rfl) fe_c (by have q1 := itoa_len (okI_t (n := ops[i].2) (by omega) (by omega)); have q2 := kw_len (k := ops[i].1); have q3 := headI_len hl3; have q4 := flat_len (f := opI) (g := okO) (m := 27) (fun _ h => opI_len h) hok; rw [List.length_take] at q4; simp at q3 q4 ⊢; omega))) ?_
                              refine tb_one2 (i := 12) rfl (by kernel_rfl) (by kernel_rfl) (wants_none rfl) (oj_call2 Tryd.call35 fe_f (fel_cons (fe_t rfl) (fel_cons (fe_t rfl) fel_nil)) (fun w' hS => wsM (hS.pick [2, 3, 1] _ rfl (by decide)) (ws_two (by decide) (by decide)) _ (by have q1 := itoa_len (okI_t (n := ops[i].2) (by omega) (by omega)); have q2 := kw_len (k := ops[i].1); have q3 := headI_len hl3; have q4 := flat_len (f := opI) (g := okO) (m := 27) (fun _ h => opI_len h) hok; rw [List.length_take] at q4; simp at q3 q4 ⊢; omega)) (fun g_o _ => ⟨fun w h => h.pick [2, 1] _ rfl (by decide), ?_⟩))
                              refine tb_done (by kernel_rfl) ?_
                              refine tx_in ?_
                              refine tx_then ?_
                              refine tr_region ?_
                              refine tl_step rfl (oj_val (y_inc (fe_t rfl) fe_c (by omega)) ?_)
                              refine tl_step rfl (oj_val (y_move (fe_t rfl)) ?_)
                              refine tl_nil ?_
                              apply tx_back2 (i + 1) (_)
                              · exact (cov_cons (by first | rfl | exact v_int (by omega) | exact v_bool (by simp [*])) (cov_nil))
                              · repeat (first | exact over_nil | refine over_put rfl ?_ | refine over_drop rfl ?_)
                              · exact fun w h => (h.pick [0, 1] _ rfl (by decide)).txt rfl (by rw [flat_take (show i < ops.length by omega)]; have hkz := kw_zw (k := ops[i].1) (by omega) (by omega); simp [opI, ← hkz])
                              · exact ⟨⟨by omega, all_take (by omega) hok (okO_t (by omega) (by omega) (okI_t (by omega) (by omega)))⟩, by omega⟩
              · try (exfalso; omega)
                all_goals
                  refine tr_exit ?_
                  refine tx_then_exit ?_
                  refine tx_then_exit ?_
                  refine tx_in_exit ?_
                  refine tx_then ?_
                  refine tr_seq ?_
                  refine tr_region ?_
                  refine tl_step rfl (oj_call2 Tryd.call37 fe_f (fel_cons (fe_t rfl) fel_nil) (fun w' hS => strE (L := [_]) (hS.pick [0, 1] [_, _] rfl (by decide))) (fun _ _ => ?_))
                  refine tl_step rfl (oj_val (y_assign (fe_t rfl)) ?_)
                  refine tl_step rfl (oj_val (y_assign fe_c) ?_)
                  refine tl_nil ?_
                  refine tx_then ?_
                  refine tr_ret ?_
                  refine tx_ret (res2 Tryd.results9 (rok_t rfl) (rok_t rfl)) (fun w' hS => ?_)
                  obtain rfl : i = ops.length := by omega
                  rw [List.take_length] at hok
                  rw [pr_ok hl3 hok, List.take_length]
                  exact ⟨rfl, hS.pick [] _ rfl (by decide)⟩

end Go.Proofs.YtfcpmcdlgkfolaaDoor.Bn
