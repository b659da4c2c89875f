/- Walks: a script printed once more. -/
import Derived.Test.YtfcpmcdlgkfolaaDoorBnJ
namespace Go.Proofs.YtfcpmcdlgkfolaaDoor.Bn
open Go.RowKit Go.Lib Go.Proofs.YtfcpmcdlgkfolaaDoor.E

set_option maxRecDepth 100000 in
set_option maxHeartbeats 4000000 in
theorem zprintE {w : World} (hw : Gw w) (a b c : Int) (ops : List (Int × Int)) (A : Option Addr) (n m : Nat) (hr : Rd w A (ops.flatMap c2i)) (hn : ops.length = n) (hm : n ≤ 100000000) :
    Calls Tryd.prog 10 #[.agg #[(.int .i64 a), (.int .i64 b), (.int .i64 c), .slice A n m]] w fun e w' => e = .returned (.tuple #[str (prR [a, b, c] ops).1, (.int .i64 ((prR [a, b, c] ops).2))]) ∧ St w w' [] := by
  refine calls_tr Tryd.func10 Tryd.ntmps10 rfl rfl (St.refl _) ?_
  refine tr_seq ?_
  refine tr_region ?_
  refine tl_step rfl (oj_box (fe_t rfl) (fun b1 => ?_))
  refine tl_step rfl (oj_val (y_assign fe_c) ?_)
  refine tl_step rfl (oj_val (y_assign fe_c) ?_)
  refine tl_nil ?_
  refine tx_then ?_
  refine tr_seq ?_
  refine tr_region ?_
  refine tl_step rfl (oj_val (y_assign fe_c) ?_)
  refine tl_nil ?_
  refine tx_then ?_
  refine tr_seq ?_
  refine tr_seq ?_
  refine tr_region ?_
  refine tl_step rfl (oj_val (y_fieldAddr (td := 3) Tryd.underlying24 rfl rfl Tryd.sizeOf3 (o' := 0) rfl (fe_t rfl)) ?_)
  refine tl_step rfl (oj_val (y_ldb 0 Tryd.isAgg3 (fe_t rfl) rfl rfl) ?_)
  refine tl_step rfl (oj_val (y_fieldAddr (td := 3) Tryd.underlying24 rfl rfl Tryd.sizeOf3 (o' := 1) rfl (fe_t rfl)) ?_)
  refine tl_step rfl (oj_val (y_ldb 0 Tryd.isAgg3 (fe_t rfl) rfl rfl) ?_)
  refine tl_step rfl (oj_val (y_fieldAddr (td := 3) Tryd.underlying24 rfl rfl Tryd.sizeOf3 (o' := 2) rfl (fe_t rfl)) ?_)
  refine tl_step rfl (oj_val (y_ldb 0 Tryd.isAgg3 (fe_t rfl) rfl rfl) ?_)
  refine tl_step rfl (oj_lit3 Tryd.underlying39 Tryd.sizeOf3 Tryd.zeroValue3 rfl (fe_t rfl) (fe_t rfl) (fe_t rfl) rfl rfl rfl (fun g_v1 => ?_))
  refine tl_step rfl (oj_val (y_len Tryd.underlying39 (fe_t rfl)) ?_)
  refine tl_step rfl (oj_val (y_move fe_c) ?_)
  refine tl_nil ?_
  refine tx_then ?_
  refine tr_block ?_
  refine tr_loop2 [2, 3, 4, 6, 18, 19, 20, 21, 22, 23, 24, 25, 26, 27, 28, 29, 30, 31, 32, 33] (fun (i : Nat) (u : List UInt8) => [(18, .int .i64 (i : Int)), (4, str u)]) 0 (fun (i : Nat) (u : List UInt8) => []) (fun (i : Nat) (u : List UInt8) => i ≤ 3 ∧ ([a, b, c].take i).all okI = true ∧ u = sRate ++ ([a, b, c].take i).flatMap numI) (fun (i : Nat) (u : List UInt8) => 3 - i) (0) (_) (cov_cons (by first | rfl | exact v_int (by omega) | exact v_bool (by simp [*])) (cov_cons (by first | rfl | exact v_int (by omega) | exact v_bool (by simp [*])) (cov_nil))) (fun w h => h) ?_ ?_
  · try dsimp only
    exact ⟨by omega, rfl, rfl⟩
  intro i u hp
  obtain ⟨hi, hok, hu⟩ := hp
  refine tr_seq ?_
  refine tr_region ?_
  refine tl_step rfl (oj_val (y_lss (fe_t rfl) (fe_t rfl)) ?_)
  refine tl_nil ?_
  refine tx_then ?_
  refine tr_seq ?_
  refine tr_condp (fe_t rfl) (fun hq1 => ?_) (fun hq2 => ?_)
  · try (exfalso; omega)
    all_goals
      refine tr_skip ?_
      refine tx_then ?_
      refine tr_seq ?_
      refine tr_block ?_
      refine tr_seq ?_
      have hi3 : i < [a, b, c].length := by simp; omega
      refine tr_region ?_
      refine tl_step rfl (oj_val (y_index Tryd.underlying39 Tryd.sizeOf3 (fe_t rfl) (fe_t rfl) (rdl_vec 0 rfl) (rfl) (by decide) (by omega) (Nat.mul_one _)) ?_)
      refine tl_step rfl (oj_val (y_ld Tryd.isAgg3 (fe_t rfl) (rdl_vec 0 rfl) (getL (l := [a, b, c]) (show i < 3 by omega))) ?_)
      refine tl_step rfl (oj_val (y_assign (fe_t rfl)) ?_)
      refine tl_nil ?_
      refine tx_then ?_
      refine tr_seq ?_
      refine tr_seq ?_
      refine tr_region ?_
      refine tl_step rfl (oj_val (y_move (fe_t rfl)) ?_)
      refine tl_step rfl (oj_val (y_lss (fe_t rfl) fe_c) ?_)
      refine tl_step rfl (oj_val (y_move (fe_t rfl)) ?_)
      refine tl_splitp (d := 24) rfl (fun hq3 => ?_) (fun hq4 => ?_)
      · try (exfalso; omega)
        all_goals
          refine tl_skip rfl rfl rfl rfl ?_
          refine tl_skip rfl rfl rfl rfl ?_
          refine tl_step rfl (oj_val (y_pickt (fe_t rfl) fe_c) ?_)
          refine tl_nil ?_
          refine tx_then ?_
          refine tr_condt (fe_t rfl) ?_
          refine tr_seq ?_
          refine tr_region ?_
          refine tl_step rfl (oj_val (y_assign fe_c) ?_)
          refine tl_step rfl (oj_val (y_assign fe_c) ?_)
          refine tl_nil ?_
          refine tx_then ?_
          refine tr_ret ?_
          refine tx_then_ret ?_
          refine tx_in_ret ?_
          refine tx_then_ret ?_
          refine tx_then_ret ?_
          refine tx_in_ret ?_
          refine tx_then_ret ?_
          refine tx_ret (res2 Tryd.results10 (rok_t rfl) (rok_t rfl)) (fun w' hS => ?_)
          rw [pr_head (l := [a, b, c]) (i := i) (by simp; omega) (okI_f (by omega))]
          exact ⟨rfl, hS.pick [] _ rfl (by decide)⟩
      · try (exfalso; omega)
        all_goals
          refine tl_want rfl rfl rfl (oj_val (y_move (fe_t rfl)) ?_)
          refine tl_want rfl rfl rfl (oj_val (y_gtr (fe_t rfl) fe_c) ?_)
          refine tl_step rfl (oj_val (y_pickf (fe_t rfl) (fe_t rfl)) ?_)
          refine tl_nil ?_
          refine tx_then ?_
          refine tr_condp (fe_t rfl) (fun hq5 => ?_) (fun hq6 => ?_)
          · try (exfalso; omega)
            all_goals
              refine tr_seq ?_
              refine tr_region ?_
              refine tl_step rfl (oj_val (y_assign fe_c) ?_)
              refine tl_step rfl (oj_val (y_assign fe_c) ?_)
              refine tl_nil ?_
              refine tx_then ?_
              refine tr_ret ?_
              refine tx_then_ret ?_
              refine tx_in_ret ?_
              refine tx_then_ret ?_
              refine tx_then_ret ?_
              refine tx_in_ret ?_
              refine tx_then_ret ?_
              refine tx_ret (res2 Tryd.results10 (rok_t rfl) (rok_t rfl)) (fun w' hS => ?_)
              rw [pr_head (l := [a, b, c]) (i := i) (by simp; omega) (okI_f (by omega))]
              exact ⟨rfl, hS.pick [] _ rfl (by decide)⟩
          · try (exfalso; omega)
            all_goals
              refine tr_skip ?_
              refine tx_then ?_
              refine tr_region ?_
              refine tl_step rfl (oj_val (y_move (fe_t rfl)) ?_)
              refine tl_step rfl (oj_val (y_move (fe_t rfl)) ?_)
              refine tl_step rfl (oj_callv Tryd.call38 fe_f (fel_cons (fe_t rfl) (fel_cons fe_c fel_nil)) (fun w' hS => fmtE (hw.st hS) [a, b, c][i] (by omega) (by omega)) ?_)
              refine tl_step rfl (oj_val (y_cat fe_c (fe_t rfl) (by have q1 := itoa_len (okI_t (n := [a, b, c][i]) (by omega) (by omega)); have q3 := flat_len (f := numI) (g := okI) (m := 22) (fun _ h => numI_len h) hok; rw [List.length_take] at q3; simp [sRate, hu] at q1 q3 ⊢; omega)) ?_)
              refine tl_step rfl (oj_val (y_cat (fe_t rfl) (fe_t rfl) (by have q1 := itoa_len (okI_t (n := [a, b, c][i]) (by omega) (by omega)); have q3 := flat_len (f := numI) (g := okI) (m := 22) (fun _ h => numI_len h) hok; rw [List.length_take] at q3; simp [sRate, hu] at q1 q3 ⊢; omega)) ?_)
              refine tl_step rfl (oj_val (y_assign (fe_t rfl)) ?_)
              refine tl_nil ?_
              refine tx_in ?_
              refine tx_then ?_
              refine tr_region ?_
              refine tl_step rfl (oj_val (y_inc (fe_t rfl) fe_c (by omega)) ?_)
              refine tl_step rfl (oj_val (y_move (fe_t rfl)) ?_)
              refine tl_nil ?_
              apply tx_back2 (i + 1) (_)
              · exact (cov_cons (by first | rfl | exact v_int (by omega) | exact v_bool (by simp [*])) (cov_cons (by first | rfl | exact v_int (by omega) | exact v_bool (by simp [*])) (cov_nil)))
              · repeat (first | exact over_nil | refine over_put rfl ?_ | refine over_drop rfl ?_)
              · exact fun w h => h.pick [0, 1] _ rfl (by decide)
              · exact ⟨⟨by omega, all_take (by simp; omega) hok (okI_t (by omega) (by omega)), by rw [hu, flat_take (l := [a, b, c]) (i := i) (by simp; omega)]; simp [numI]⟩, by omega⟩
  · try (exfalso; omega)
    all_goals
      refine tr_exit ?_
      refine tx_then_exit ?_
      refine tx_then_exit ?_
      refine tx_in_exit ?_
      refine tx_then ?_
      refine tr_seq ?_
      obtain rfl : i = 3 := by omega
      have hl3 : [a, b, c].all okI = true := hok
      refine tr_region ?_
      refine tl_step rfl (oj_val (y_move (fe_t rfl)) ?_)
      refine tl_step rfl (oj_val (y_cat (fe_t rfl) fe_c (by have q3 := headI_len hl3; rw [hu]; simp [headI] at q3 ⊢; omega)) ?_)
      refine tl_step rfl (oj_val (y_assign (fe_t rfl)) ?_)
      refine tl_nil ?_
      refine tx_then ?_
      refine tr_seq ?_
      refine tr_seq ?_
      refine tr_region ?_
      refine tl_step rfl (oj_val (y_fieldAddr (td := 22) Tryd.underlying24 rfl rfl Tryd.sizeOf22 (o' := 3) rfl (fe_t rfl)) ?_)
      refine tl_step rfl (oj_val (y_ldb 1 Tryd.isAgg22 (fe_t rfl) rfl rfl) ?_)
      refine tl_step rfl (oj_val (y_len Tryd.underlying22 (fe_t rfl)) ?_)
      refine tl_step rfl (oj_val (y_move fe_c) ?_)
      refine tl_nil ?_
      refine tx_then ?_
      refine tr_block ?_
      refine tr_loop2 [2, 3, 4, 8, 9, 39, 40, 41, 42, 43, 44, 45, 46, 47, 48, 49, 50, 51, 52, 53, 54, 55, 56, 57, 58, 59, 60, 61, 62, 63, 64, 65, 66, 67, 68] (fun (j : Nat) (x : List UInt8) => [(39, .int .i64 (j : Int)), (4, str x)]) 0 (fun (j : Nat) (x : List UInt8) => []) (fun (j : Nat) (x : List UInt8) => j ≤ n ∧ (ops.take j).all okO = true ∧ x = headI [a, b, c] ++ 10 :: (ops.take j).flatMap opI) (fun (j : Nat) (x : List UInt8) => n - j) (0) (_) (cov_cons (by first | rfl | exact v_int (by omega) | exact v_bool (by simp [*])) (cov_cons (by first | rfl | exact v_int (by omega) | exact v_bool (by simp [*])) (cov_nil))) (fun w h => h) ?_ ?_
      · try dsimp only
        exact ⟨by omega, rfl, by rw [hu]; simp [headI]⟩
      intro j x hp
      obtain ⟨hj, hok2, hx⟩ := hp
      refine tr_seq ?_
      refine tr_region ?_
      refine tl_step rfl (oj_val (y_lss (fe_t rfl) (fe_t rfl)) ?_)
      refine tl_nil ?_
      refine tx_then ?_
      refine tr_seq ?_
      refine tr_condp (fe_t rfl) (fun hq7 => ?_) (fun hq8 => ?_)
      · try (exfalso; omega)
        all_goals
          refine tr_skip ?_
          refine tx_then ?_
          refine tr_seq ?_
          refine tr_block ?_
          refine tr_seq ?_
          refine tr_region ?_
          refine tl_step rfl (oj_val (y_index Tryd.underlying22 Tryd.sizeOf52 (fe_t rfl) (fe_t rfl) (rdl_out hr) (by rw [flat2_len]; omega) (by decide) (by omega) rfl) ?_)
          refine tl_step rfl (oj_val (y_ldA Tryd.isAgg52 Tryd.sizeOf52 (fe_t rfl) (rdl_out hr) rfl (by decide) (getF (c := c2i) (l := ops) (fun _ => rfl) (by omega))) ?_)
          refine tl_step rfl (oj_alloc Tryd.zeroValue52 (fun b2 => ?_))
          refine tl_step rfl (oj_storeW 0 Tryd.sizeOf52 (fe_t rfl) (fe_t rfl) rfl rfl rfl rfl rfl (?_))
          refine tl_nil ?_
          refine tx_then ?_
          refine tr_seq ?_
          refine tr_region ?_
          refine tl_step rfl (oj_makeMap (fun b_mp1 => ?_))
          refine tl_step rfl (oj_insert <| oj_mapPut 0 Tryd.underlying106 Tryd.underlying3 (fe_t rfl) fe_c fe_c rfl (.inl rfl) (?_))
          refine tl_step rfl (oj_insert <| oj_mapPut 0 Tryd.underlying106 Tryd.underlying3 (fe_t rfl) fe_c fe_c rfl (.inl rfl) (?_))
          refine tl_step rfl (oj_insert <| oj_mapPut 0 Tryd.underlying106 Tryd.underlying3 (fe_t rfl) fe_c fe_c rfl (.inl rfl) (?_))
          refine tl_step rfl (oj_val (y_move (fe_t rfl)) ?_)
          refine tl_step rfl (oj_val (y_fieldAddr (td := 3) Tryd.underlying52 rfl rfl Tryd.sizeOf3 (o' := 0) rfl (fe_t rfl)) ?_)
          refine tl_step rfl (oj_val (y_ldb 1 Tryd.isAgg3 (fe_t rfl) rfl rfl) ?_)
          refine tl_step rfl (oj_val (y_to (y_lookup 0 Tryd.underlying106 Tryd.underlying3 Tryd.zeroValue9 (fe_t rfl) (fe_t rfl) rfl) (zw_get _)) ?_)
          refine tl_step rfl (oj_val (y_assign (fe_t rfl)) ?_)
          refine tl_nil ?_
          refine tx_then ?_
          refine tr_seq ?_
          refine tr_seq ?_
          refine tr_region ?_
          refine tl_step rfl (oj_val (y_move (fe_t rfl)) ?_)
          refine tl_step rfl (oj_val (y_eqs (fe_t rfl) fe_c) ?_)
          refine tl_step rfl (oj_val (y_move (fe_t rfl)) ?_)
          refine tl_splitp (d := 50) rfl (fun hq9 => ?_) (fun hq10 => ?_)
          · try (exfalso; omega)
            all_goals
              refine tl_skip rfl rfl rfl rfl ?_
              refine tl_skip rfl rfl rfl rfl ?_
              refine tl_skip rfl rfl rfl rfl ?_
              refine tl_step rfl (oj_val (y_pickt (fe_t rfl) fe_c) ?_)
              refine tl_step rfl (oj_val (y_move (fe_t rfl)) ?_)
              refine tl_skip rfl rfl rfl rfl ?_
              refine tl_skip rfl rfl rfl rfl ?_
              refine tl_skip rfl rfl rfl rfl ?_
              refine tl_step rfl (oj_val (y_pickt (fe_t rfl) fe_c) ?_)
              refine tl_nil ?_
              refine tx_then ?_
              refine tr_condt (fe_t rfl) ?_
              refine tr_seq ?_
              refine tr_region ?_
              refine tl_step rfl (oj_val (y_assign fe_c) ?_)
              refine tl_step rfl (oj_val (y_assign fe_c) ?_)
              refine tl_nil ?_
              refine tx_then ?_
              refine tr_ret ?_
              refine tx_then_ret ?_
              refine tx_in_ret ?_
              refine tx_then_ret ?_
              refine tx_then_ret ?_
              refine tx_in_ret ?_
              refine tx_then_ret ?_
              refine tx_ret (res2 Tryd.results10 (rok_t rfl) (rok_t rfl)) (fun w' hS => ?_)
              rw [pr_op (i := j) (by omega) (okO_f ((zw_nil (by assumption)).elim .inl (fun h => .inr (.inl h))))]
              exact ⟨rfl, hS.pick [] _ rfl (by decide)⟩
          · try (exfalso; omega)
            all_goals
              refine tl_want rfl rfl rfl (oj_val (y_fieldAddr (td := 3) Tryd.underlying52 rfl rfl Tryd.sizeOf3 (o' := 1) rfl (fe_t rfl)) ?_)
              refine tl_want rfl rfl rfl (oj_val (y_ldb 1 Tryd.isAgg3 (fe_t rfl) rfl rfl) ?_)
              refine tl_want rfl rfl rfl (oj_val (y_lss (fe_t rfl) fe_c) ?_)
              refine tl_step rfl (oj_val (y_pickf (fe_t rfl) (fe_t rfl)) ?_)
              refine tl_step rfl (oj_val (y_move (fe_t rfl)) ?_)
              refine tl_splitp (d := 55) rfl (fun hq11 => ?_) (fun hq12 => ?_)
              · try (exfalso; omega)
                all_goals
                  refine tl_skip rfl rfl rfl rfl ?_
                  refine tl_skip rfl rfl rfl rfl ?_
                  refine tl_skip rfl rfl rfl rfl ?_
                  refine tl_step rfl (oj_val (y_pickt (fe_t rfl) fe_c) ?_)
                  refine tl_nil ?_
                  refine tx_then ?_
                  refine tr_condt (fe_t rfl) ?_
                  refine tr_seq ?_
                  refine tr_region ?_
                  refine tl_step rfl (oj_val (y_assign fe_c) ?_)
                  refine tl_step rfl (oj_val (y_assign fe_c) ?_)
                  refine tl_nil ?_
                  refine tx_then ?_
                  refine tr_ret ?_
                  refine tx_then_ret ?_
                  refine tx_in_ret ?_
                  refine tx_then_ret ?_
                  refine tx_then_ret ?_
                  refine tx_in_ret ?_
                  refine tx_then_ret ?_
                  refine tx_ret (res2 Tryd.results10 (rok_t rfl) (rok_t rfl)) (fun w' hS => ?_)
                  rw [pr_op (i := j) (by omega) (okO_f (.inr (.inr (okI_f (by omega)))))]
                  exact ⟨rfl, hS.pick [] _ rfl (by decide)⟩
              · try (exfalso; omega)
                all_goals
                  refine tl_want rfl rfl rfl (oj_val (y_fieldAddr (td := 3) Tryd.underlying52 rfl rfl Tryd.sizeOf3 (o' := 1) rfl (fe_t rfl)) ?_)
                  refine tl_want rfl rfl rfl (oj_val (y_ldb 1 Tryd.isAgg3 (fe_t rfl) rfl rfl) ?_)
                  refine tl_want rfl rfl rfl (oj_val (y_gtr (fe_t rfl) fe_c) ?_)
                  refine tl_step rfl (oj_val (y_pickf (fe_t rfl) (fe_t rfl)) ?_)
                  refine tl_nil ?_
                  refine tx_then ?_
                  refine tr_condp (fe_t rfl) (fun hq13 => ?_) (fun hq14 => ?_)
                  · try (exfalso; omega)
                    all_goals
                      refine tr_seq ?_
                      refine tr_region ?_
                      refine tl_step rfl (oj_val (y_assign fe_c) ?_)
                      refine tl_step rfl (oj_val (y_assign fe_c) ?_)
                      refine tl_nil ?_
                      refine tx_then ?_
                      refine tr_ret ?_
                      refine tx_then_ret ?_
                      refine tx_in_ret ?_
                      refine tx_then_ret ?_
                      refine tx_then_ret ?_
                      refine tx_in_ret ?_
                      refine tx_then_ret ?_
                      refine tx_ret (res2 Tryd.results10 (rok_t rfl) (rok_t rfl)) (fun w' hS => ?_)
                      rw [pr_op (i := j) (by omega) (okO_f (.inr (.inr (okI_f (by omega)))))]
                      exact ⟨rfl, hS.pick [] _ rfl (by decide)⟩
                  · try (exfalso; omega)
                    all_goals
                      refine tr_skip ?_
                      refine tx_then ?_
                      refine tr_region ?_
                      refine tl_step rfl (oj_val (y_move (fe_t rfl)) ?_)
                      refine tl_step rfl (oj_val (y_move (fe_t rfl)) ?_)
                      refine tl_step rfl (oj_val (y_fieldAddr (td := 3) Tryd.underlying52 rfl rfl Tryd.sizeOf3 (o' := 1) rfl (fe_t rfl)) ?_)
                      refine tl_step rfl (oj_val (y_ldb 1 Tryd.isAgg3 (fe_t rfl) rfl rfl) ?_)
                      refine tl_step rfl (oj_callv Tryd.call38 fe_f (fel_cons (fe_t rfl) (fel_cons fe_c fel_nil)) (fun w' hS => fmtE (hw.st hS) ops[j].2 (by omega) (by omega)) ?_)
                      refine tl_step rfl (oj_val (y_cat (fe_t rfl) (fe_t rfl) (by have q1 := itoa_len (okI_t (n := ops[j].2) (by omega) (by omega)); have q2 := zw_len ops[j].1; have q3 := headI_len hl3; have q4 := flat_len (f := opI) (g := okO) (m := 27) (fun _ h => opI_len h) hok2; rw [List.length_take] at q4; simp [hx] at q3 q4 ⊢; omega)) ?_)
                      refine tl_step rfl (oj_val (y_cat (fe_t rfl) fe_c (by have q1 := itoa_len (okI_t (n := ops[j].2) (by omega) (by omega)); have q2 := zw_len ops[j].1; have q3 := headI_len hl3; have q4 := flat_len (f := opI) (g := okO) (m := 27) (fun _ h => opI_len h) hok2; rw [List.length_take] at q4; simp [hx] at q3 q4 ⊢; omega)) ?_)
                      refine tl_step rfl (oj_val (y_cat (fe_t rfl) (fe_t rfl) (by have q1 := itoa_len (okI_t (n := ops[j].2) (by omega) (by omega)); have q2 := zw_len ops[j].1; have q3 := headI_len hl3; have q4 := flat_len (f := opI) (g := okO) (m := 27) (fun _ h => opI_len h) hok2; rw [List.length_take] at q4; simp [hx] at q3 q4 ⊢; omega)) ?_)
                      refine tl_step rfl (oj_val (y_assign (fe_t rfl)) ?_)
                      refine tl_nil ?_
                      refine tx_in ?_
                      refine tx_then ?_
                      refine tr_region ?_
                      refine tl_step rfl (oj_val (y_inc (fe_t rfl) fe_c (by omega)) ?_)
                      refine tl_step rfl (oj_val (y_move (fe_t rfl)) ?_)
                      refine tl_nil ?_
                      apply tx_back2 (j + 1) (_)
                      · exact (cov_cons (by first | rfl | exact v_int (by omega) | exact v_bool (by simp [*])) (cov_cons (by first | rfl | exact v_int (by omega) | exact v_bool (by simp [*])) (cov_nil)))
                      · repeat (first | exact over_nil | refine over_put rfl ?_ | refine over_drop rfl ?_)
                      · exact fun w h => h.pick [2, 3] _ rfl (by decide)
                      · have hzs := zw_some (by assumption)
                        exact ⟨⟨by omega, all_take (by omega) hok2 (okO_t hzs.1 hzs.2 (okI_t (by omega) (by omega))), by rw [hx, flat_take (show j < ops.length by omega)]; simp [opI]⟩, by omega⟩
      · try (exfalso; omega)
        all_goals
          refine tr_exit ?_
          refine tx_then_exit ?_
          refine tx_then_exit ?_
          refine tx_in_exit ?_
          refine tx_then ?_
          refine tr_seq ?_
          refine tr_region ?_
          refine tl_step rfl (oj_val (y_move (fe_t rfl)) ?_)
          refine tl_step rfl (oj_val (y_assign (fe_t rfl)) ?_)
          refine tl_step rfl (oj_val (y_assign fe_c) ?_)
          refine tl_nil ?_
          refine tx_then ?_
          refine tr_ret ?_
          refine tx_ret (res2 Tryd.results10 (rok_t rfl) (rok_t rfl)) (fun w' hS => ?_)
          obtain rfl : j = ops.length := by omega
          rw [List.take_length] at hok2 hx
          rw [pr_ok hl3 hok2]
          exact ⟨by rw [hx]; rfl, hS.pick [] _ rfl (by decide)⟩

end Go.Proofs.YtfcpmcdlgkfolaaDoor.Bn
