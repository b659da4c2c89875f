/- Walks: flows side by side, and by turns. -/
import Derived.Test.YtoibebmhfcjpfaaGreatDoorZfBnAl
import Derived.Test.YtoibebmhfcjpfaaGreatDoorZfFaN
import Derived.Test.YtoibebmhfcjpfaaGreatDoorZfWqA
namespace Go.Proofs.YtoibebmhfcjpfaaGreatDoor.Fair
open Go.RowKit Go.Lib Go.Proofs.YtoibebmhfcjpfaaGreatDoor.E Go.Proofs.YtoibebmhfcjpfaaGreatDoor.Share

set_option maxRecDepth 100000 in
set_option maxHeartbeats 4000000 in
theorem fair_out {w : World} (hw : Bn.Gw w) (A : Option Addr) (n c : Nat) (ws : List Int) (hr : Rd w A (ws.map (.int .i64))) (hl : ws.length = n) (hm : n ≤ 140737488355328) (R : Int) (hx : 16 < n ∨ R < 1 ∨ 10 < R ∨ ¬ Scfq.wrongOf ws = 0) :
    Calls Tryz.prog 3 #[.slice A n c, (.int .i64 R)] w fun e w' => e = .returned (.bool true) ∧ St w w' [] := by
  refine calls_tr Tryz.func3 Tryz.ntmps3 rfl rfl (St.refl _) ?_
  refine tr_seq ?_
  refine tr_region ?_
  refine tl_step rfl (oj_val (y_assign fe_c) ?_)
  refine tl_nil ?_
  refine tx_then ?_
  refine tr_seq ?_
  refine tr_seq ?_
  refine tr_region ?_
  refine tl_step rfl (oj_callv Tryz.call4 fe_f fel_nil (fun w' hS => Bn.aliveE (hw.st hS)) ?_)
  refine tl_step rfl (oj_val (y_not (fe_t rfl)) ?_)
  refine tl_nil ?_
  refine tx_then ?_
  refine tr_condf (fe_t rfl) ?_
  refine tr_skip ?_
  refine tx_then ?_
  refine tr_seq ?_
  refine tr_seq ?_
  refine tr_region ?_
  refine tl_step rfl (oj_val (y_move (fe_t rfl)) ?_)
  refine tl_step rfl (oj_val (y_len Tryz.underlying22 (fe_t rfl)) ?_)
  refine tl_step rfl (oj_val (y_gtr (fe_t rfl) fe_c) ?_)
  refine tl_step rfl (oj_val (y_move (fe_t rfl)) ?_)
  refine tl_splitp (d := 27) rfl (fun hq1 => ?_) (fun hq2 => ?_)
  · try (exfalso; omega)
    all_goals
      refine tl_skip rfl rfl rfl rfl ?_
      refine tl_skip rfl rfl rfl rfl ?_
      refine tl_step rfl (oj_val (y_pickt (fe_t rfl) fe_c) ?_)
      refine tl_step rfl (oj_val (y_move (fe_t rfl)) ?_)
      refine tl_skip rfl rfl rfl rfl ?_
      refine tl_skip rfl rfl rfl rfl ?_
      refine tl_step rfl (oj_val (y_pickt (fe_t rfl) fe_c) ?_)
      refine tl_step rfl (oj_val (y_move (fe_t rfl)) ?_)
      refine tl_skip rfl rfl rfl rfl ?_
      refine tl_skip rfl rfl rfl rfl ?_
      refine tl_skip rfl rfl rfl rfl ?_
      refine tl_step rfl (oj_val (y_pickt (fe_t rfl) fe_c) ?_)
      refine tl_nil ?_
      refine tx_then ?_
      refine tr_condt (fe_t rfl) ?_
      refine tr_seq ?_
      refine tr_region ?_
      refine tl_step rfl (oj_val (y_assign fe_c) ?_)
      refine tl_nil ?_
      refine tx_then ?_
      refine tr_ret ?_
      refine tx_then_ret ?_
      refine tx_ret (res1 Tryz.results3 (rok_t rfl)) (fun w' hS => ?_)
      exact ⟨by first | rfl | simp, hS.pick [] _ rfl (by decide)⟩
  · try (exfalso; omega)
    all_goals
      refine tl_want rfl rfl rfl (oj_val (y_move (fe_t rfl)) ?_)
      refine tl_want rfl rfl rfl (oj_val (y_lss (fe_t rfl) fe_c) ?_)
      refine tl_step rfl (oj_val (y_pickf (fe_t rfl) (fe_t rfl)) ?_)
      refine tl_step rfl (oj_val (y_move (fe_t rfl)) ?_)
      refine tl_splitp (d := 31) rfl (fun hq3 => ?_) (fun hq4 => ?_)
      · try (exfalso; omega)
        all_goals
          refine tl_skip rfl rfl rfl rfl ?_
          refine tl_skip rfl rfl rfl rfl ?_
          refine tl_step rfl (oj_val (y_pickt (fe_t rfl) fe_c) ?_)
          refine tl_step rfl (oj_val (y_move (fe_t rfl)) ?_)
          refine tl_skip rfl rfl rfl rfl ?_
          refine tl_skip rfl rfl rfl rfl ?_
          refine tl_skip rfl rfl rfl rfl ?_
          refine tl_step rfl (oj_val (y_pickt (fe_t rfl) fe_c) ?_)
          refine tl_nil ?_
          refine tx_then ?_
          refine tr_condt (fe_t rfl) ?_
          refine tr_seq ?_
          refine tr_region ?_
          refine tl_step rfl (oj_val (y_assign fe_c) ?_)
          refine tl_nil ?_
          refine tx_then ?_
          refine tr_ret ?_
          refine tx_then_ret ?_
          refine tx_ret (res1 Tryz.results3 (rok_t rfl)) (fun w' hS => ?_)
          exact ⟨by first | rfl | simp, hS.pick [] _ rfl (by decide)⟩
      · try (exfalso; omega)
        all_goals
          refine tl_want rfl rfl rfl (oj_val (y_move (fe_t rfl)) ?_)
          refine tl_want rfl rfl rfl (oj_val (y_gtr (fe_t rfl) fe_c) ?_)
          refine tl_step rfl (oj_val (y_pickf (fe_t rfl) (fe_t rfl)) ?_)
          refine tl_step rfl (oj_val (y_move (fe_t rfl)) ?_)
          refine tl_splitp (d := 35) rfl (fun hq5 => ?_) (fun hq6 => ?_)
          · try (exfalso; omega)
            all_goals
              refine tl_skip rfl rfl rfl rfl ?_
              refine tl_skip rfl rfl rfl rfl ?_
              refine tl_skip rfl rfl rfl rfl ?_
              refine tl_step rfl (oj_val (y_pickt (fe_t rfl) fe_c) ?_)
              refine tl_nil ?_
              refine tx_then ?_
              refine tr_condt (fe_t rfl) ?_
              refine tr_seq ?_
              refine tr_region ?_
              refine tl_step rfl (oj_val (y_assign fe_c) ?_)
              refine tl_nil ?_
              refine tx_then ?_
              refine tr_ret ?_
              refine tx_then_ret ?_
              refine tx_ret (res1 Tryz.results3 (rok_t rfl)) (fun w' hS => ?_)
              exact ⟨by first | rfl | simp, hS.pick [] _ rfl (by decide)⟩
          · try (exfalso; omega)
            all_goals
              refine tl_want rfl rfl rfl (oj_val (y_move (fe_t rfl)) ?_)
              refine tl_want rfl rfl rfl (oj_callv Tryz.call5 fe_f (fel_cons (fe_t rfl) fel_nil) (fun w' hS => Wfq.wrongE A n c ws w' (Rd.below hr hS.below) hl hm) ?_)
              refine tl_want rfl rfl rfl (oj_val (y_neq (fe_t rfl) fe_c) ?_)
              refine tl_step rfl (oj_val (y_pickf (fe_t rfl) (fe_t rfl)) ?_)
              refine tl_nil ?_
              refine tx_then ?_
              refine tr_condp (fe_t rfl) (fun hq7 => ?_) (fun hq8 => ?_)
              · try (exfalso; omega)
                all_goals
                  refine tr_seq ?_
                  refine tr_region ?_
                  refine tl_step rfl (oj_val (y_assign fe_c) ?_)
                  refine tl_nil ?_
                  refine tx_then ?_
                  refine tr_ret ?_
                  refine tx_then_ret ?_
                  refine tx_ret (res1 Tryz.results3 (rok_t rfl)) (fun w' hS => ?_)
                  exact ⟨by first | rfl | simp, hS.pick [] _ rfl (by decide)⟩
              · exfalso; omega

set_option maxRecDepth 100000 in
set_option maxHeartbeats 4000000 in
theorem fair_ok {w : World} (hw : Bn.Gw w) (A : Option Addr) (n c : Nat) (ws : List Int) (hr : Rd w A (ws.map (.int .i64))) (hl : ws.length = n) (hm : n ≤ 140737488355328) (R : Nat) (h16 : ws.length ≤ 16) (hR1 : 1 ≤ R) (hR : R ≤ 10) (hz : Scfq.wrongOf ws = 0) (hw12 : ∀ k, k < ws.length → 1 ≤ gI ws k ∧ gI ws k ≤ 12) :
    Calls Tryz.prog 3 #[.slice A n c, (.int .i64 ((R : Int)))] w fun e w' => e = .returned (.bool true) ∧ St w w' [] := by
  refine calls_tr Tryz.func3 Tryz.ntmps3 rfl rfl (St.refl _) ?_
  refine tr_seq ?_
  refine tr_region ?_
  refine tl_step rfl (oj_val (y_assign fe_c) ?_)
  refine tl_nil ?_
  refine tx_then ?_
  refine tr_seq ?_
  refine tr_seq ?_
  refine tr_region ?_
  refine tl_step rfl (oj_callv Tryz.call4 fe_f fel_nil (fun w' hS => Bn.aliveE (hw.st hS)) ?_)
  refine tl_step rfl (oj_val (y_not (fe_t rfl)) ?_)
  refine tl_nil ?_
  refine tx_then ?_
  refine tr_condf (fe_t rfl) ?_
  refine tr_skip ?_
  refine tx_then ?_
  refine tr_seq ?_
  refine tr_seq ?_
  refine tr_region ?_
  refine tl_step rfl (oj_val (y_move (fe_t rfl)) ?_)
  refine tl_step rfl (oj_val (y_len Tryz.underlying22 (fe_t rfl)) ?_)
  refine tl_step rfl (oj_val (y_gtr (fe_t rfl) fe_c) ?_)
  refine tl_step rfl (oj_val (y_move (fe_t rfl)) ?_)
  refine tl_splitp (d := 27) rfl (fun hq1 => ?_) (fun hq2 => ?_)
  · try (exfalso; omega)
    all_goals
      refine tl_skip rfl rfl rfl rfl ?_
      refine tl_skip rfl rfl rfl rfl ?_
      refine tl_step rfl (oj_val (y_pickt (fe_t rfl) fe_c) ?_)
      refine tl_step rfl (oj_val (y_move (fe_t rfl)) ?_)
      refine tl_skip rfl rfl rfl rfl ?_
      refine tl_skip rfl rfl rfl rfl ?_
      refine tl_step rfl (oj_val (y_pickt (fe_t rfl) fe_c) ?_)
      refine tl_step rfl (oj_val (y_move (fe_t rfl)) ?_)
      refine tl_skip rfl rfl rfl rfl ?_
      refine tl_skip rfl rfl rfl rfl ?_
      refine tl_skip rfl rfl rfl rfl ?_
      refine tl_step rfl (oj_val (y_pickt (fe_t rfl) fe_c) ?_)
      refine tl_nil ?_
      refine tx_then ?_
      exfalso; omega
  · try (exfalso; omega)
    all_goals
      refine tl_want rfl rfl rfl (oj_val (y_move (fe_t rfl)) ?_)
      refine tl_want rfl rfl rfl (oj_val (y_lss (fe_t rfl) fe_c) ?_)
      refine tl_step rfl (oj_val (y_pickf (fe_t rfl) (fe_t rfl)) ?_)
      refine tl_step rfl (oj_val (y_move (fe_t rfl)) ?_)
      refine tl_splitp (d := 31) rfl (fun hq3 => ?_) (fun hq4 => ?_)
      · try (exfalso; omega)
        all_goals
          refine tl_skip rfl rfl rfl rfl ?_
          refine tl_skip rfl rfl rfl rfl ?_
          refine tl_step rfl (oj_val (y_pickt (fe_t rfl) fe_c) ?_)
          refine tl_step rfl (oj_val (y_move (fe_t rfl)) ?_)
          refine tl_skip rfl rfl rfl rfl ?_
          refine tl_skip rfl rfl rfl rfl ?_
          refine tl_skip rfl rfl rfl rfl ?_
          refine tl_step rfl (oj_val (y_pickt (fe_t rfl) fe_c) ?_)
          refine tl_nil ?_
          refine tx_then ?_
          exfalso; omega
      · try (exfalso; omega)
        all_goals
          refine tl_want rfl rfl rfl (oj_val (y_move (fe_t rfl)) ?_)
          refine tl_want rfl rfl rfl (oj_val (y_gtr (fe_t rfl) fe_c) ?_)
          refine tl_step rfl (oj_val (y_pickf (fe_t rfl) (fe_t rfl)) ?_)
          refine tl_step rfl (oj_val (y_move (fe_t rfl)) ?_)
          refine tl_splitp (d := 35) rfl (fun hq5 => ?_) (fun hq6 => ?_)
          · try (exfalso; omega)
            all_goals
              refine tl_skip rfl rfl rfl rfl ?_
              refine tl_skip rfl rfl rfl rfl ?_
              refine tl_skip rfl rfl rfl rfl ?_
              refine tl_step rfl (oj_val (y_pickt (fe_t rfl) fe_c) ?_)
              refine tl_nil ?_
              refine tx_then ?_
              exfalso; omega
          · try (exfalso; omega)
            all_goals
              refine tl_want rfl rfl rfl (oj_val (y_move (fe_t rfl)) ?_)
              refine tl_want rfl rfl rfl (oj_callv Tryz.call5 fe_f (fel_cons (fe_t rfl) fel_nil) (fun w' hS => Wfq.wrongE A n c ws w' (Rd.below hr hS.below) hl hm) ?_)
              refine tl_want rfl rfl rfl (oj_val (y_neq (fe_t rfl) fe_c) ?_)
              refine tl_step rfl (oj_val (y_pickf (fe_t rfl) (fe_t rfl)) ?_)
              refine tl_nil ?_
              refine tx_then ?_
              refine tr_condp (fe_t rfl) (fun hq7 => ?_) (fun hq8 => ?_)
              · exfalso; omega
              · try (exfalso; omega)
                all_goals
                  refine tr_skip ?_
                  refine tx_then ?_
                  refine tr_seq ?_
                  refine tr_region ?_
                  refine tl_step rfl (oj_val (y_assign fe_c) ?_)
                  refine tl_step rfl (oj_val (y_assign fe_c) ?_)
                  refine tl_nil ?_
                  refine tx_then ?_
                  refine tr_seq ?_
                  refine tr_region ?_
                  refine tl_step rfl (oj_val (y_assign fe_c) ?_)
                  refine tl_nil ?_
                  refine tx_then ?_
                  refine tr_seq ?_
                  refine tr_region ?_
                  refine tl_step rfl (oj_val (y_assign fe_c) ?_)
                  refine tl_nil ?_
                  refine tx_then ?_
                  refine tr_seq ?_
                  refine tr_seq ?_
                  refine tr_region ?_
                  refine tl_step rfl (oj_val (y_move (fe_t rfl)) ?_)
                  refine tl_step rfl (oj_val (y_len Tryz.underlying22 (fe_t rfl)) ?_)
                  refine tl_step rfl (oj_val (y_move fe_c) ?_)
                  refine tl_nil ?_
                  refine tx_then ?_
                  refine tr_block ?_
                  refine tr_add (r := E.rows 3 1 [] []) rows_nil rfl ?_
                  refine tr_add (r := vec 22 1 (.slice none 0 0) 0 []) vec_nil rfl ?_
                  refine tr_add (r := vec 3 1 (.slice none 0 0) 0 []) vec_nil rfl ?_
                  refine tr_add (r := vec 3 1 (.slice none 0 0) 0 []) vec_nil rfl ?_
                  refine tr_loop5 [5, 6, 7, 8, 10, 42, 43, 44, 45, 46, 47, 48, 49, 50, 51, 52, 53, 54, 55, 56, 57, 58, 59, 60, 61, 62, 63, 64, 65, 66] (fun (k : Nat) (z1 : Vs) (z2 : Vs) (z3 : Vs) (xss : List (List Value)) => [(42, .int .i64 (k : Int)), (8, .int .i64 (sm (gI ws) k)), (5, .slice z1.A z1.n z1.c), (6, .slice z2.A z2.n z2.c), (7, .slice z3.A z3.n z3.c)]) 0 (fun (k : Nat) (z1 : Vs) (z2 : Vs) (z3 : Vs) (xss : List (List Value)) => [(0, vec 3 1 (.slice z1.A z1.n z1.c) z1.n z1.xs), (1, vec 3 1 (.slice z2.A z2.n z2.c) z2.n z2.xs), (2, vec 22 1 (.slice z3.A z3.n z3.c) z3.n z3.xs), (3, E.rows 3 1 z3.xs xss)]) (fun (k : Nat) (z1 : Vs) (z2 : Vs) (z3 : Vs) (xss : List (List Value)) => k ≤ n ∧ (z1.n = k ∧ z1.xs = cI (tsF (ws.take k))) ∧ (z2.n = k ∧ z2.xs = cI (List.replicate k 1048576)) ∧ z3.n = k ∧ xss = (fsF (ws.take k) R).map cI) (fun (k : Nat) (z1 : Vs) (z2 : Vs) (z3 : Vs) (xss : List (List Value)) => n - k) (0) (⟨none, 0, 0, []⟩ : Vs) (⟨none, 0, 0, []⟩ : Vs) (⟨none, 0, 0, []⟩ : Vs) ([]) (cov_cons (by first | rfl | exact v_int (by omega) | exact v_bool (by simp [*])) (cov_cons (by first | rfl | exact v_int (by omega) | exact v_bool (by simp [*])) (cov_cons (by first | rfl | exact v_int (by omega) | exact v_bool (by simp [*])) (cov_cons (by first | rfl | exact v_int (by omega) | exact v_bool (by simp [*])) (cov_cons (by first | rfl | exact v_int (by omega) | exact v_bool (by simp [*])) (cov_nil)))))) (fun w h => h) ?_ ?_
                  · try dsimp only
                    exact ⟨by omega, ⟨rfl, by simp [tsF, cI]⟩, ⟨rfl, rfl⟩, rfl, by simp [fsF]⟩
                  intro k z1 z2 z3 xss hp
                  obtain ⟨hk, ⟨hz1n, hz1x⟩, ⟨hz2n, hz2x⟩, hz3n, hxss⟩ := hp
                  refine tr_seq ?_
                  refine tr_region ?_
                  refine tl_step rfl (oj_val (y_lss (fe_t rfl) (fe_t rfl)) ?_)
                  refine tl_nil ?_
                  refine tx_then ?_
                  refine tr_seq ?_
                  refine tr_condp (fe_t rfl) (fun hq9 => ?_) (fun hq10 => ?_)
                  · try (exfalso; omega)
                    all_goals
                      refine tr_skip ?_
                      refine tx_then ?_
                      refine tr_seq ?_
                      refine tr_block ?_
                      refine tr_seq ?_
                      have hsb := sum_bd h16 hw12 (k := k) (by omega)
                      have hgk := hw12 k (by omega)
                      have hbd := fair_bd hgk (R := (R : Int)) ⟨by omega, by omega⟩ hsb
                      refine tr_region ?_
                      refine tl_step rfl (oj_val (y_index Tryz.underlying22 Tryz.sizeOf3 (fe_t rfl) (fe_t rfl) (rdl_out hr) (by simp; omega) (by decide) (by omega) (Nat.mul_one _)) ?_)
                      refine tl_step rfl (oj_val (y_ld Tryz.isAgg3 (fe_t rfl) (rdl_out hr) (getG (zs := ws) (by omega))) ?_)
                      refine tl_step rfl (oj_val (y_assign (fe_t rfl)) ?_)
                      refine tl_nil ?_
                      refine tx_then ?_
                      refine tr_seq ?_
                      refine tr_region ?_
                      refine tl_step rfl (oj_val (y_move (fe_t rfl)) ?_)
                      refine tl_step rfl (oj_val (y_move (fe_t rfl)) ?_)
                      refine tl_step rfl (oj_val (y_mul (fe_t rfl) fe_c (by omega)) ?_)
                      refine tl_step rfl (oj_slice1 Tryz.underlying22 Tryz.sizeOf3 Tryz.zeroValue3 (fe_t rfl) (by decide) rfl (fun b1 => ?_))
                      refine tl_step rfl (oj_append (i := 1) (s := 1) (z := (.int .i64 0)) (bytes := 8) Tryz.underlying22 (by kernel_rfl) (fe_t rfl) (fe_t rfl) rfl (rdl_blk 0 rfl) rfl (by decide) (by first | exact oneI | exact oneF (fun _ => rfl) | exact fun u hu => List.all_eq_true.1 (show List.all _ (fun x => x.oneCell') = true from rfl) u hu | (intro u hu; revert u hu; simp [Value.oneCell'])) (by decide) ⟨by omega, by decide⟩ (fun Aa1 ca1 hca1 => ?_))
                      refine tl_step rfl (oj_val (y_move (fe_t rfl)) ?_)
                      refine tl_step rfl (oj_slice1 Tryz.underlying22 Tryz.sizeOf3 Tryz.zeroValue3 fe_c (by decide) rfl (fun b2 => ?_))
                      refine tl_step rfl (oj_append (i := 3) (s := 1) (z := (.int .i64 0)) (bytes := 8) Tryz.underlying22 (by kernel_rfl) (fe_t rfl) (fe_t rfl) rfl (rdl_blk 0 rfl) rfl (by decide) (by first | exact oneI | exact oneF (fun _ => rfl) | exact fun u hu => List.all_eq_true.1 (show List.all _ (fun x => x.oneCell') = true from rfl) u hu | (intro u hu; revert u hu; simp [Value.oneCell'])) (by decide) ⟨by omega, by decide⟩ (fun Aa2 ca2 hca2 => ?_))
                      refine tl_step rfl (oj_val (y_assign (fe_t rfl)) ?_)
                      refine tl_step rfl (oj_val (y_assign (fe_t rfl)) ?_)
                      refine tl_nil ?_
                      refine tx_then ?_
                      refine tr_seq ?_
                      refine tr_region ?_
                      refine tl_step rfl (oj_val (y_move (fe_t rfl)) ?_)
                      refine tl_step rfl (oj_slice1 Tryz.underlying22 Tryz.sizeOf3 Tryz.zeroValue3 fe_c (by decide) rfl (fun lb => ?_))
                      refine tl_step rfl (oj_val (y_move (fe_t rfl)) ?_)
                      refine tl_step rfl (oj_val (y_move (fe_t rfl)) ?_)
                      refine tl_step rfl (oj_val (y_mul (fe_t rfl) (fe_t rfl) (by omega)) ?_)
                      refine tl_step rfl (oj_val (y_add (fe_t rfl) fe_c (by omega)) ?_)
                      refine tl_step rfl (oj_call Tryz.call6 fe_f (fel_cons (fe_t rfl) (fel_cons (fe_t rfl) fel_nil)) (fun w' hS => repF w' (rdl_blk 0 rfl w' hS) (by omega) (by omega)) (fun v0 hv0 => ?_))
                      refine tl_step rfl (oj_slice1 Tryz.underlying26 Tryz.sizeOf22 Tryz.zeroValue22 (fe_t rfl) (by decide) rfl (fun b3 => ?_))
                      refine tl_step rfl (oj_append (i := 7) (s := 1) (z := (.slice none 0 0)) (bytes := 24) Tryz.underlying26 (by kernel_rfl) (fe_t rfl) (fe_t rfl) rfl (rdl_blk 0 rfl) rfl (by decide) (by first | exact oneI | exact oneF (fun _ => rfl) | exact fun u hu => List.all_eq_true.1 (show List.all _ (fun x => x.oneCell') = true from rfl) u hu | (intro u hu; revert u hu; simp [Value.oneCell'])) (by decide) ⟨by omega, by decide⟩ (fun Aa3 ca3 hca3 => ?_))
                      refine tl_step rfl (oj_val (y_assign (fe_t rfl)) ?_)
                      refine tl_nil ?_
                      refine tx_then ?_
                      refine tr_absorb 1 8 rfl rfl rfl ?_
                      refine tr_region ?_
                      refine tl_step rfl (oj_val (y_move (fe_t rfl)) ?_)
                      refine tl_step rfl (oj_val (y_move (fe_t rfl)) ?_)
                      refine tl_step rfl (oj_val (y_add (fe_t rfl) (fe_t rfl) (by omega)) ?_)
                      refine tl_step rfl (oj_val (y_assign (fe_t rfl)) ?_)
                      refine tl_nil ?_
                      refine tx_in ?_
                      refine tx_then ?_
                      refine tr_region ?_
                      refine tl_step rfl (oj_val (y_inc (fe_t rfl) fe_c (by omega)) ?_)
                      refine tl_step rfl (oj_val (y_move (fe_t rfl)) ?_)
                      refine tl_nil ?_
                      apply tx_back5 (k + 1) ((⟨_, _, _, _⟩ : Vs)) ((⟨_, _, _, _⟩ : Vs)) ((⟨_, _, _, _⟩ : Vs)) (_)
                      · exact (cov_cons (by first | rfl | exact v_int (by omega) | exact v_bool (by simp [*])) (cov_cons (by first | rfl | exact v_int (by omega) | exact v_bool (by simp [*])) (cov_cons (by first | rfl | exact v_int (by omega) | exact v_bool (by simp [*])) (cov_cons (by first | rfl | exact v_int (by omega) | exact v_bool (by simp [*])) (cov_cons (by first | rfl | exact v_int (by omega) | exact v_bool (by simp [*])) (cov_nil))))))
                      · repeat (first | exact over_nil | refine over_put rfl ?_ | refine over_drop rfl ?_)
                      · exact fun w h => h.pick [5, 6, 7, 8] _ rfl (by decide)
                      · refine ⟨⟨by omega, ⟨by dsimp only; omega, ?_⟩, ⟨by dsimp only; omega, ?_⟩, by dsimp only; omega, ?_⟩, by omega⟩
                        · dsimp only
                          rw [hz1x, tsF_succ (by omega), cI, cI, List.map_append]
                          rfl
                        · dsimp only
                          rw [hz2x, List.replicate_succ', cI, cI, List.map_append]
                          rfl
                        · rw [hxss, fsF_succ (by omega), List.map_append, hv0.2]
                          rfl
                  · try (exfalso; omega)
                    all_goals
                      refine tr_exit ?_
                      refine tx_then_exit ?_
                      refine tx_then_exit ?_
                      refine tx_in_exit ?_
                      refine tx_then ?_
                      refine tr_seq ?_
                      obtain rfl : n = k := by omega
                      rw [List.take_of_length_le (by omega)] at hz1x hxss
                      have hsb := sum_bd h16 hw12 (k := n) (by omega)
                      have hbd := fair_bd (w := 1) (R := (R : Int)) (D := sm (gI ws) n) ⟨by omega, by omega⟩ ⟨by omega, by omega⟩ hsb
                      refine tr_region ?_
                      refine tl_step rfl (oj_val (y_move (fe_t rfl)) ?_)
                      refine tl_step rfl (oj_val (y_move (fe_t rfl)) ?_)
                      refine tl_step rfl (oj_val (y_move (fe_t rfl)) ?_)
                      refine tl_step rfl (oj_call Tryz.call7 fe_f (fel_cons (fe_t rfl) (fel_cons (fe_t rfl) (fel_cons (fe_t rfl) fel_nil))) (fun w' hS => roundsF (ws := ws) w' (rd_v hS 0 rfl) hz1x hl (rdr_own (hS.holds 2 _ rfl) (by rw [← hxss]; exact hS.holds 3 _ rfl)) hz1n hz3n h16 hw12 hR) (fun q0 hq0 => ?_))
                      refine tl_step rfl (oj_val (y_move (fe_t rfl)) ?_)
                      refine tl_step rfl (oj_val (y_extract (fe_t rfl) rfl) ?_)
                      refine tl_step rfl (oj_val (y_extract (fe_t rfl) rfl) ?_)
                      refine tl_step rfl (oj_val (y_extract (fe_t rfl) rfl) ?_)
                      refine tl_step rfl (oj_val (y_extract (fe_t rfl) rfl) ?_)
                      refine tl_step rfl (oj_val (y_assign (fe_t rfl)) ?_)
                      refine tl_step rfl (oj_val (y_assign (fe_t rfl)) ?_)
                      refine tl_step rfl (oj_val (y_assign (fe_t rfl)) ?_)
                      refine tl_step rfl (oj_val (y_assign (fe_t rfl)) ?_)
                      refine tl_nil ?_
                      refine tx_then ?_
                      refine tr_seq ?_
                      refine tr_region ?_
                      refine tl_step rfl (oj_val (y_move (fe_t rfl)) ?_)
                      refine tl_step rfl (oj_val (y_mul (fe_t rfl) fe_c (by omega)) ?_)
                      refine tl_step rfl (oj_val (y_move (fe_t rfl)) ?_)
                      refine tl_step rfl (oj_val (y_mul (fe_t rfl) (fe_t rfl) (by omega)) ?_)
                      refine tl_step rfl (oj_val (y_move (fe_t rfl)) ?_)
                      refine tl_step rfl (oj_val (y_move (fe_t rfl)) ?_)
                      refine tl_step rfl (oj_call Tryz.call8 fe_f (fel_cons (fe_t rfl) (fel_cons (fe_t rfl) (fel_cons (fe_t rfl) fel_nil))) (fun w' hS => getsF (ws := ws) w' (rd_v hS 2 rfl) hz2x (Rd.below hr hS.below) hl hz2n h16 hw12 (by omega)) (fun r0 hr0 => ?_))
                      refine tl_step rfl (oj_val (y_move (fe_t rfl)) ?_)
                      refine tl_step rfl (oj_val (y_extract (fe_t rfl) rfl) ?_)
                      refine tl_step rfl (oj_val (y_extract (fe_t rfl) rfl) ?_)
                      refine tl_step rfl (oj_val (y_assign (fe_t rfl)) ?_)
                      refine tl_step rfl (oj_val (y_assign (fe_t rfl)) ?_)
                      refine tl_nil ?_
                      refine tx_then ?_
                      refine tr_seq ?_
                      refine tr_seq ?_
                      obtain ⟨⟨hsn, hsx⟩, hS6, hhad, hel⟩ := hq0
                      refine tr_region ?_
                      refine tl_step rfl (oj_val (y_move (fe_t rfl)) ?_)
                      refine tl_step rfl (oj_val (y_neq (fe_t rfl) fe_c) ?_)
                      refine tl_step rfl (oj_val (y_move (fe_t rfl)) ?_)
                      refine tl_splitp (d := 88) rfl (fun hq11 => ?_) (fun hq12 => ?_)
                      · try (exfalso; omega)
                        all_goals
                          refine tl_skip rfl rfl rfl rfl ?_
                          refine tl_skip rfl rfl rfl rfl ?_
                          refine tl_step rfl (oj_val (y_pickt (fe_t rfl) fe_c) ?_)
                          refine tl_step rfl (oj_val (y_move (fe_t rfl)) ?_)
                          refine tl_skip rfl rfl rfl rfl ?_
                          refine tl_skip rfl rfl rfl rfl ?_
                          refine tl_skip rfl rfl rfl rfl ?_
                          refine tl_skip rfl rfl rfl rfl ?_
                          refine tl_skip rfl rfl rfl rfl ?_
                          refine tl_step rfl (oj_val (y_pickt (fe_t rfl) fe_c) ?_)
                          refine tl_nil ?_
                          refine tx_then ?_
                          exfalso; omega
                      · try (exfalso; omega)
                        all_goals
                          refine tl_want rfl rfl rfl (oj_val (y_move (fe_t rfl)) ?_)
                          refine tl_want rfl rfl rfl (oj_val (y_neq (fe_t rfl) fe_c) ?_)
                          refine tl_step rfl (oj_val (y_pickf (fe_t rfl) (fe_t rfl)) ?_)
                          refine tl_step rfl (oj_val (y_move (fe_t rfl)) ?_)
                          refine tl_splitp (d := 92) rfl (fun hq13 => ?_) (fun hq14 => ?_)
                          · try (exfalso; omega)
                            all_goals
                              refine tl_skip rfl rfl rfl rfl ?_
                              refine tl_skip rfl rfl rfl rfl ?_
                              refine tl_skip rfl rfl rfl rfl ?_
                              refine tl_skip rfl rfl rfl rfl ?_
                              refine tl_skip rfl rfl rfl rfl ?_
                              refine tl_step rfl (oj_val (y_pickt (fe_t rfl) fe_c) ?_)
                              refine tl_nil ?_
                              refine tx_then ?_
                              exfalso; omega
                          · try (exfalso; omega)
                            all_goals
                              refine tl_want rfl rfl rfl (oj_val (y_move (fe_t rfl)) ?_)
                              refine tl_want rfl rfl rfl (oj_val (y_len Tryz.underlying31 (fe_t rfl)) ?_)
                              refine tl_want rfl rfl rfl (oj_val (y_move (fe_t rfl)) ?_)
                              refine tl_want rfl rfl rfl (oj_val (y_len Tryz.underlying22 (fe_t rfl)) ?_)
                              refine tl_want rfl rfl rfl (oj_val (y_neq (fe_t rfl) (fe_t rfl)) ?_)
                              refine tl_step rfl (oj_val (y_pickf (fe_t rfl) (fe_t rfl)) ?_)
                              refine tl_nil ?_
                              refine tx_then ?_
                              refine tr_condp (fe_t rfl) (fun hq15 => ?_) (fun hq16 => ?_)
                              · exfalso; omega
                              · try (exfalso; omega)
                                all_goals
                                  refine tr_skip ?_
                                  refine tx_then ?_
                                  refine tr_seq ?_
                                  refine tr_region ?_
                                  refine tl_step rfl (oj_val (y_move (fe_t rfl)) ?_)
                                  refine tl_step rfl (oj_val (y_len Tryz.underlying22 (fe_t rfl)) ?_)
                                  refine tl_step rfl (oj_make (z := (.int .i64 0)) (bytes := 8) Tryz.underlying22 (by kernel_rfl) (fe_t rfl) (fe_t rfl) rfl ⟨by omega, by decide⟩ (fun g1 => ?_))
                                  refine tl_step rfl (oj_val (y_assign (fe_t rfl)) ?_)
                                  refine tl_nil ?_
                                  refine tx_then ?_
                                  refine tr_seq ?_
                                  refine tr_seq ?_
                                  refine tr_region ?_
                                  refine tl_step rfl (oj_val (y_move (fe_t rfl)) ?_)
                                  refine tl_step rfl (oj_val (y_len Tryz.underlying28 (fe_t rfl)) ?_)
                                  refine tl_step rfl (oj_val (y_move fe_c) ?_)
                                  refine tl_nil ?_
                                  refine tx_then ?_
                                  refine tr_block ?_
                                  refine tr_loop2 [4, 19, 104, 105, 106, 107, 108, 109, 110, 111, 112, 113, 114, 115, 116, 117, 118, 119, 120, 121, 122, 123, 124, 125, 126, 127] (fun (i : Nat) (hx : List Value) => [(104, .int .i64 (i : Int))]) 0 (fun (i : Nat) (hx : List Value) => [(0, vec 3 1 (.slice (some ⟨g1, 0, none⟩) n n) n hx)]) (fun (i : Nat) (hx : List Value) => i ≤ q0.2.1.length ∧ hx = hadV q0.2.1 n i) (fun (i : Nat) (hx : List Value) => q0.2.1.length - i) (0) (_) (cov_cons (by first | rfl | exact v_int (by omega) | exact v_bool (by simp [*])) (cov_nil)) (fun w h => h) ?_ ?_
                                  · try dsimp only
                                    exact ⟨by omega, hadV_zero⟩
                                  intro i hx hp
                                  obtain ⟨hi, hhx⟩ := hp
                                  refine tr_seq ?_
                                  refine tr_region ?_
                                  refine tl_step rfl (oj_val (y_lss (fe_t rfl) (fe_t rfl)) ?_)
                                  refine tl_nil ?_
                                  refine tx_then ?_
                                  refine tr_seq ?_
                                  refine tr_condp (fe_t rfl) (fun hq17 => ?_) (fun hq18 => ?_)
                                  · try (exfalso; omega)
                                    all_goals
                                      refine tr_skip ?_
                                      refine tx_then ?_
                                      refine tr_seq ?_
                                      refine tr_block ?_
                                      refine tr_seq ?_
                                      obtain ⟨q, hqn, hsi⟩ := sent_at (i := i) hel (by omega)
                                      refine tr_region ?_
                                      refine tl_step rfl (oj_val (y_index Tryz.underlying28 Tryz.sizeOf35 (fe_t rfl) (fe_t rfl) (rdl_vec 2 rfl) (sN_len hsx hsn) (by decide) (by omega) rfl) ?_)
                                      refine tl_step rfl (oj_val (y_ldA (cs := [(.int .i64 ((q : Int))), (.int .i64 100)]) Tryz.isAgg35 Tryz.sizeOf35 (fe_t rfl) (rdl_vec 2 rfl) rfl (by decide) (by rw [hsx]; exact getC (by omega) hsi)) ?_)
                                      refine tl_step rfl (oj_alloc Tryz.zeroValue35 (fun sb => ?_))
                                      refine tl_step rfl (oj_storeW 0 Tryz.sizeOf35 (fe_t rfl) (fe_t rfl) rfl rfl rfl rfl rfl (?_))
                                      refine tl_nil ?_
                                      refine tx_then ?_
                                      refine tr_seq ?_
                                      refine tr_seq ?_
                                      refine tr_region ?_
                                      refine tl_step rfl (oj_val (y_fieldAddr (td := 3) Tryz.underlying35 rfl rfl Tryz.sizeOf3 (o' := 0) rfl (fe_t rfl)) ?_)
                                      refine tl_step rfl (oj_val (y_ldb 0 Tryz.isAgg3 (fe_t rfl) rfl rfl) ?_)
                                      refine tl_step rfl (oj_val (y_lss (fe_t rfl) fe_c) ?_)
                                      refine tl_step rfl (oj_val (y_move (fe_t rfl)) ?_)
                                      refine tl_splitp (d := 111) rfl (fun hq19 => ?_) (fun hq20 => ?_)
                                      · try (exfalso; omega)
                                        all_goals
                                          refine tl_skip rfl rfl rfl rfl ?_
                                          refine tl_skip rfl rfl rfl rfl ?_
                                          refine tl_skip rfl rfl rfl rfl ?_
                                          refine tl_skip rfl rfl rfl rfl ?_
                                          refine tl_skip rfl rfl rfl rfl ?_
                                          refine tl_step rfl (oj_val (y_pickt (fe_t rfl) fe_c) ?_)
                                          refine tl_nil ?_
                                          refine tx_then ?_
                                          exfalso; omega
                                      · try (exfalso; omega)
                                        all_goals
                                          refine tl_want rfl rfl rfl (oj_val (y_fieldAddr (td := 3) Tryz.underlying35 rfl rfl Tryz.sizeOf3 (o' := 0) rfl (fe_t rfl)) ?_)
                                          refine tl_want rfl rfl rfl (oj_val (y_ldb 0 Tryz.isAgg3 (fe_t rfl) rfl rfl) ?_)
                                          refine tl_want rfl rfl rfl (oj_val (y_move (fe_t rfl)) ?_)
                                          refine tl_want rfl rfl rfl (oj_val (y_len Tryz.underlying22 (fe_t rfl)) ?_)
                                          refine tl_want rfl rfl rfl (oj_val (y_geq (fe_t rfl) (fe_t rfl)) ?_)
                                          refine tl_step rfl (oj_val (y_pickf (fe_t rfl) (fe_t rfl)) ?_)
                                          refine tl_nil ?_
                                          refine tx_then ?_
                                          refine tr_condp (fe_t rfl) (fun hq21 => ?_) (fun hq22 => ?_)
                                          · exfalso; omega
                                          · try (exfalso; omega)
                                            all_goals
                                              refine tr_skip ?_
                                              refine tx_then ?_
                                              have hnn := had_take (k := q) (had_nnS hel) i
                                              have hgq := hw12 q (by omega)
                                              have hbq := fair_bd hgq (R := (R : Int)) ⟨by omega, by omega⟩ hsb
                                              have hhq := hhad q hqn
                                              refine tb_draw 9 (sel _ [0, 2, 3, 4, 5, 6, 7]) (fun w h => h.sel _ rfl (by decide)) rfl ?_
                                              refine tb_float (i := 0) rfl (by kernel_rfl) rfl (wants_none rfl) (yq_of (y_move (fe_t rfl))) ?_
                                              refine tb_float (i := 1) rfl (by kernel_rfl) rfl (wants_none rfl) (yq_of (y_fieldAddr (td := 3) Tryz.underlying35 rfl rfl Tryz.sizeOf3 (o' := 0) rfl (fe_t rfl))) ?_
                                              refine tb_float (i := 2) rfl (by kernel_rfl) rfl (wants_none rfl) (yq_of (y_ldb 0 Tryz.isAgg3 (fe_t rfl) rfl rfl)) ?_
                                              refine tb_float1 (i := 3) rfl (by kernel_rfl) (by kernel_rfl) rfl (wants_none rfl) (yq_of (y_index Tryz.underlying22 Tryz.sizeOf3 (fe_t rfl) (fe_t rfl) (rdl_vec 1 rfl) (by rw [hhx, hadV_len]; omega) (by decide) (by omega) (Nat.mul_one _))) ?_
                                              refine tb_float1 (i := 4) rfl (by kernel_rfl) (by kernel_rfl) rfl (wants_none rfl) (yq_of (y_ld Tryz.isAgg3 (fe_t rfl) (rdl_vec 1 rfl) (by rw [hhx]; exact hadV_get (by omega)))) ?_
                                              refine tb_float (i := 5) rfl (by kernel_rfl) rfl (wants_none rfl) (yq_of (y_fieldAddr (td := 3) Tryz.underlying35 rfl rfl Tryz.sizeOf3 (o' := 1) rfl (fe_t rfl))) ?_
                                              refine tb_float (i := 6) rfl (by kernel_rfl) rfl (wants_none rfl) (yq_of (y_ldb 0 Tryz.isAgg3 (fe_t rfl) rfl rfl)) ?_
                                              refine tb_float (i := 7) rfl (by kernel_rfl) rfl (wants_none rfl) (yq_of (y_add (fe_t rfl) (fe_t rfl) (by omega))) ?_
                                              refine tb_float1 (i := 8) rfl (by kernel_rfl) (by kernel_rfl) rfl (wants_none rfl) (yq_of (y_index Tryz.underlying22 Tryz.sizeOf3 (fe_t rfl) (fe_t rfl) (rdl_vec 1 rfl) (by rw [hhx, hadV_len]; omega) (by decide) (by omega) (Nat.mul_one _))) ?_
                                              refine tb_one2 (i := 9) rfl (by kernel_rfl) (by kernel_rfl) (wants_none rfl) (oj_storeE1 (i := 1) Tryz.sizeOf3 (fe_t rfl) (fe_t rfl) rfl rfl rfl (by omega) (⟨fun w h => h.pick [0, 2, 3, 4, 5, 6, 7] _ rfl (by decide), ?_⟩))
                                              refine tb_done (by kernel_rfl) ?_
                                              refine tx_in ?_
                                              refine tx_then ?_
                                              refine tr_region ?_
                                              refine tl_step rfl (oj_val (y_inc (fe_t rfl) fe_c (by omega)) ?_)
                                              refine tl_step rfl (oj_val (y_move (fe_t rfl)) ?_)
                                              refine tl_nil ?_
                                              apply tx_back2 (i + 1) (_)
                                              · exact (cov_cons (by first | rfl | exact v_int (by omega) | exact v_bool (by simp [*])) (cov_nil))
                                              · repeat (first | exact over_nil | refine over_put rfl ?_ | refine over_drop rfl ?_)
                                              · exact fun w h => h.pick [1, 2, 3, 4, 5, 6, 7] _ rfl (by decide)
                                              · refine ⟨⟨by omega, ?_⟩, by omega⟩
                                                rw [hhx]
                                                exact hadV_set (by omega) hsi
                                  · try (exfalso; omega)
                                    all_goals
                                      refine tr_exit ?_
                                      refine tx_then_exit ?_
                                      refine tx_then_exit ?_
                                      refine tx_in_exit ?_
                                      refine tx_then ?_
                                      refine tr_seq ?_
                                      refine tr_seq ?_
                                      obtain rfl : i = q0.2.1.length := by omega
                                      have hhx2 : hx = (List.range n).map fun (k : Nat) => (.int .i64 (gI ws k * 100 * R)) := by
                                        rw [hhx, hadV, List.take_of_length_le (Nat.le_refl _)]
                                        exact List.map_congr_left fun k hk => by rw [hhad k (List.mem_range.1 hk)]
                                      refine tr_region ?_
                                      refine tl_step rfl (oj_val (y_move (fe_t rfl)) ?_)
                                      refine tl_step rfl (oj_val (y_len Tryz.underlying22 (fe_t rfl)) ?_)
                                      refine tl_step rfl (oj_val (y_move fe_c) ?_)
                                      refine tl_nil ?_
                                      refine tx_then ?_
                                      refine tr_block ?_
                                      refine tr_loop1 [4, 20, 21, 130, 131, 132, 133, 134, 135, 136, 137, 138, 139, 140, 141, 142, 143, 144, 145, 146, 147, 148, 149, 150, 151, 152, 153, 154, 155, 156, 157, 158, 159] (fun (j : Nat) => [(130, .int .i64 (j : Int))]) 0 (fun (j : Nat) => []) (fun (j : Nat) => j ≤ n) (fun (j : Nat) => n - j) (0) (cov_cons (by first | rfl | exact v_int (by omega) | exact v_bool (by simp [*])) (cov_nil)) (fun w h => h) ?_ ?_
                                      · try dsimp only
                                        exact (Nat.zero_le _)
                                      intro j hp
                                      have hj := hp
                                      refine tr_seq ?_
                                      refine tr_region ?_
                                      refine tl_step rfl (oj_val (y_lss (fe_t rfl) (fe_t rfl)) ?_)
                                      refine tl_nil ?_
                                      refine tx_then ?_
                                      refine tr_seq ?_
                                      refine tr_condp (fe_t rfl) (fun hq23 => ?_) (fun hq24 => ?_)
                                      · try (exfalso; omega)
                                        all_goals
                                          refine tr_skip ?_
                                          refine tx_then ?_
                                          refine tr_seq ?_
                                          refine tr_block ?_
                                          refine tr_seq ?_
                                          refine tr_region ?_
                                          refine tl_step rfl (oj_val (y_move (fe_t rfl)) ?_)
                                          refine tl_step rfl (oj_val (y_index Tryz.underlying22 Tryz.sizeOf3 (fe_t rfl) (fe_t rfl) (rdl_vec 0 rfl) (by rw [hhx, hadV_len]; omega) (by decide) (by omega) (Nat.mul_one _)) ?_)
                                          refine tl_step rfl (oj_val (y_ld (v := (.int .i64 (gI ws j * 100 * (R : Int)))) Tryz.isAgg3 (fe_t rfl) (rdl_vec 0 rfl) (by rw [hhx2]; simp [show j < n by omega])) ?_)
                                          refine tl_step rfl (oj_val (y_assign (fe_t rfl)) ?_)
                                          refine tl_step rfl (oj_val (y_assign (fe_t rfl)) ?_)
                                          refine tl_nil ?_
                                          refine tx_then ?_
                                          refine tr_seq ?_
                                          have hgj := hw12 j (by omega)
                                          have hbj := fair_bd hgj (R := (R : Int)) ⟨by omega, by omega⟩ hsb
                                          refine tb_draw 24 (sel _ [0, 1, 2, 3, 4, 5, 6]) (fun w h => h.sel _ rfl (by decide)) rfl ?_
                                          refine tb_float (i := 0) rfl (by kernel_rfl) rfl (wants_none rfl) (yq_of (y_move (fe_t rfl))) ?_
                                          refine tb_float (i := 1) rfl (by kernel_rfl) rfl (wants_none rfl) (yq_of (y_move (fe_t rfl))) ?_
                                          refine tb_float (i := 2) rfl (by kernel_rfl) rfl (wants_none rfl) (yq_of (y_move (fe_t rfl))) ?_
                                          refine tb_float (i := 3) rfl (by kernel_rfl) rfl (wants_none rfl) (yq_of (y_index Tryz.underlying22 Tryz.sizeOf3 (fe_t rfl) (fe_t rfl) (rdl_out hr) (by simp; omega) (by decide) (by omega) (Nat.mul_one _))) ?_
                                          refine tb_float (i := 4) rfl (by kernel_rfl) rfl (wants_none rfl) (yq_of (y_ld Tryz.isAgg3 (fe_t rfl) (rdl_out hr) (getG (zs := ws) (by omega)))) ?_
                                          refine tb_float (i := 5) rfl (by kernel_rfl) rfl (wants_none rfl) (yq_of (y_mul (fe_t rfl) fe_c (by omega))) ?_
                                          refine tb_float (i := 6) rfl (by kernel_rfl) rfl (wants_none rfl) (yq_of (y_move (fe_t rfl))) ?_
                                          refine tb_float (i := 7) rfl (by kernel_rfl) rfl (wants_none rfl) (yq_of (y_mul (fe_t rfl) (fe_t rfl) (by omega))) ?_
                                          refine tb_float (i := 8) rfl (by kernel_rfl) rfl (wants_none rfl) (yq_of (y_neq (fe_t rfl) (fe_t rfl))) ?_
                                          refine tb_float (i := 9) rfl (by kernel_rfl) rfl (wants_none rfl) (yq_of (y_move (fe_t rfl))) ?_
                                          refine tb_splitp (d := 144) rfl (fun hq25 => ?_) (fun hq26 => ?_)
                                          · try (exfalso; omega)
                                            all_goals
                                              refine tb_skip (i := 10) rfl (by kernel_rfl) rfl (wants_f rfl rfl rfl rfl) ?_
                                              refine tb_skip (i := 11) rfl (by kernel_rfl) rfl (wants_f rfl rfl rfl rfl) ?_
                                              refine tb_skip (i := 12) rfl (by kernel_rfl) rfl (wants_f rfl rfl rfl rfl) ?_
                                              refine tb_skip (i := 13) rfl (by kernel_rfl) rfl (wants_f rfl rfl rfl rfl) ?_
                                              refine tb_skip (i := 14) rfl (by kernel_rfl) rfl (wants_f rfl rfl rfl rfl) ?_
                                              refine tb_skip (i := 15) rfl (by kernel_rfl) rfl (wants_f rfl rfl rfl rfl) ?_
                                              refine tb_skip (i := 16) rfl (by kernel_rfl) rfl (wants_f rfl rfl rfl rfl) ?_
                                              refine tb_skip (i := 17) rfl (by kernel_rfl) rfl (wants_f rfl rfl rfl rfl) ?_
                                              refine tb_skip (i := 18) rfl (by kernel_rfl) rfl (wants_f rfl rfl rfl rfl) ?_
                                              refine tb_skip (i := 19) rfl (by kernel_rfl) rfl (wants_f rfl rfl rfl rfl) ?_
                                              refine tb_skip (i := 20) rfl (by kernel_rfl) rfl (wants_f rfl rfl rfl rfl) ?_
                                              refine tb_skip (i := 21) rfl (by kernel_rfl) rfl (wants_f rfl rfl rfl rfl) ?_
                                              refine tb_skip (i := 22) rfl (by kernel_rfl) rfl (wants_f rfl rfl rfl rfl) ?_
                                              refine tb_float (i := 23) rfl (by kernel_rfl) rfl (wants_none rfl) (yq_of (y_pickt (fe_t rfl) fe_c)) ?_
                                              refine tb_done (by kernel_rfl) ?_
                                              refine tx_then ?_
                                              exfalso; omega
                                          · try (exfalso; omega)
                                            all_goals
                                              refine tb_float (i := 10) rfl (by kernel_rfl) rfl (wants_t rfl rfl rfl) (yq_of (y_move (fe_t rfl))) ?_
                                              refine tb_float (i := 11) rfl (by kernel_rfl) rfl (wants_t rfl rfl rfl) (yq_of (y_move (fe_t rfl))) ?_
                                              refine tb_float (i := 12) rfl (by kernel_rfl) rfl (wants_t rfl rfl rfl) (yq_of (y_move (fe_t rfl))) ?_
                                              refine tb_float (i := 13) rfl (by kernel_rfl) rfl (wants_t rfl rfl rfl) (yq_of (y_index Tryz.underlying31 Tryz.sizeOf37 (fe_t rfl) (fe_t rfl) (rdl_vec 1 rfl) (by rw [hr0.2, gN_len]; omega) (by decide) (by omega) rfl)) ?_
                                              refine tb_float (i := 14) rfl (by kernel_rfl) rfl (wants_t rfl rfl rfl) (yq_of (y_fieldAddrE (td := 3) Tryz.underlying37 rfl rfl Tryz.sizeOf3 rfl (fe_t rfl) (rdl_vec 1 rfl) (by rw [hr0.2, gN_len]; omega))) ?_
                                              refine tb_float (i := 15) rfl (by kernel_rfl) rfl (wants_t rfl rfl rfl) (yq_of (y_ld (v := (.int .i64 (sm (gI ws) n))) Tryz.isAgg3 (fe_t rfl) (rdl_vec 1 rfl) (by rw [hr0.2]; exact getF1 (by omega)))) ?_
                                              refine tb_float (i := 16) rfl (by kernel_rfl) rfl (wants_t rfl rfl rfl) (yq_of (y_mul (fe_t rfl) (fe_t rfl) (by omega))) ?_
                                              refine tb_float (i := 17) rfl (by kernel_rfl) rfl (wants_t rfl rfl rfl) (yq_of (y_move (fe_t rfl))) ?_
                                              refine tb_float (i := 18) rfl (by kernel_rfl) rfl (wants_t rfl rfl rfl) (yq_of (y_move (fe_t rfl))) ?_
                                              refine tb_float (i := 19) rfl (by kernel_rfl) rfl (wants_t rfl rfl rfl) (yq_of (y_index Tryz.underlying31 Tryz.sizeOf37 (fe_t rfl) (fe_t rfl) (rdl_vec 1 rfl) (by rw [hr0.2, gN_len]; omega) (by decide) (by omega) rfl)) ?_
                                              refine tb_float (i := 20) rfl (by kernel_rfl) rfl (wants_t rfl rfl rfl) (yq_of (y_fieldAddrE (td := 3) Tryz.underlying37 rfl rfl Tryz.sizeOf3 rfl (fe_t rfl) (rdl_vec 1 rfl) (by rw [hr0.2, gN_len]; omega))) ?_
                                              refine tb_float (i := 21) rfl (by kernel_rfl) rfl (wants_t rfl rfl rfl) (yq_of (y_ld (v := (.int .i64 (gI ws j * (sm (gI ws) n * 100 * (R : Int))))) Tryz.isAgg3 (fe_t rfl) (rdl_vec 1 rfl) (by rw [hr0.2]; exact getF0 (by omega)))) ?_
                                              refine tb_float (i := 22) rfl (by kernel_rfl) rfl (wants_t rfl rfl rfl) (yq_of (y_neq (fe_t rfl) (fe_t rfl))) ?_
                                              refine tb_float (i := 23) rfl (by kernel_rfl) rfl (wants_none rfl) (yq_of (y_pickf (fe_t rfl) (fe_t rfl))) ?_
                                              refine tb_done (by kernel_rfl) ?_
                                              refine tx_then ?_
                                              refine tr_condp (fe_t rfl) (fun hq27 => ?_) (fun hq28 => ?_)
                                              · exfalso; omega
                                              · try (exfalso; omega)
                                                all_goals
                                                  refine tr_skip ?_
                                                  refine tx_in ?_
                                                  refine tx_then ?_
                                                  refine tr_region ?_
                                                  refine tl_step rfl (oj_val (y_inc (fe_t rfl) fe_c (by omega)) ?_)
                                                  refine tl_step rfl (oj_val (y_move (fe_t rfl)) ?_)
                                                  refine tl_nil ?_
                                                  apply tx_back1 (j + 1)
                                                  · exact (cov_cons (by first | rfl | exact v_int (by omega) | exact v_bool (by simp [*])) (cov_nil))
                                                  · repeat (first | exact over_nil | refine over_put rfl ?_ | refine over_drop rfl ?_)
                                                  · exact fun w h => h.pick [0, 1, 2, 3, 4, 5, 6] _ rfl (by decide)
                                                  · exact ⟨by omega, by omega⟩
                                      · try (exfalso; omega)
                                        all_goals
                                          refine tr_exit ?_
                                          refine tx_then_exit ?_
                                          refine tx_then_exit ?_
                                          refine tx_in_exit ?_
                                          refine tx_then ?_
                                          refine tr_seq ?_
                                          refine tr_region ?_
                                          refine tl_step rfl (oj_val (y_assign fe_c) ?_)
                                          refine tl_nil ?_
                                          refine tx_then ?_
                                          refine tr_ret ?_
                                          refine tx_ret (res1 Tryz.results3 (rok_t rfl)) (fun w' hS => ?_)
                                          exact ⟨by first | rfl | simp, hS.pick [] _ rfl (by decide)⟩

theorem fair_walk {w : World} (hw : Bn.Gw w) (A : Option Addr) (n c : Nat) (ws : List Int) (hr : Rd w A (ws.map (.int .i64))) (hl : ws.length = n) (hm : n ≤ 140737488355328) (R : Int) :
    Calls Tryz.prog 3 #[.slice A n c, (.int .i64 R)] w fun e w' => e = .returned (.bool true) ∧ St w w' [] := by
  by_cases hx : 16 < n ∨ R < 1 ∨ 10 < R ∨ ¬ Scfq.wrongOf ws = 0
  · exact fair_out hw A n c ws hr hl hm R hx
  · obtain ⟨r, rfl⟩ := Int.eq_ofNat_of_zero_le (show 0 ≤ R by omega)
    exact fair_ok hw A n c ws hr hl hm r (by omega) (by omega) (by omega) (by omega) (Scfq.wrong_ok (by omega)).2

end Go.Proofs.YtoibebmhfcjpfaaGreatDoor.Fair
