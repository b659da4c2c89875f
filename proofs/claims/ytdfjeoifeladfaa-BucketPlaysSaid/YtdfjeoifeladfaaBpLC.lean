/- Walks: the law, case C. -/
import Derived.Test.YtdfjeoifeladfaaBpC
namespace Go.Proofs.Ytdfjeoifeladfaa.Bucket
open Go.RowKit Go.Proofs.Ytdfjeoifeladfaa.E

set_option maxRecDepth 100000 in
set_option maxHeartbeats 4000000 in
theorem law_C (num den burst : Int) (A : Option Addr) (n c : Nat) (l : List (Int × Int)) (w : World) (hr : Rd w A (l.flatMap c2)) (hn : l.length = n) (hm : n ≤ 140737488355328) (hg : rng num den burst = true) (hs : sorted l = true) (er : Int) (her : (pst (⟨num, den, burst, burst * den, 0⟩ : Bkt) l).2.2 = er) (hne : er ≠ 0) :
    Calls Try.prog 5 #[(.int .i64 num), (.int .i64 den), (.int .i64 burst), .slice A n c] w fun e w' => e = .returned (.bool true) ∧ E.St w w' [] := by
  obtain ⟨⟨g0, g1⟩, ⟨g2, g3⟩, g4, g5⟩ := rng_iff.1 hg
  have hpd := prod_bd g4 g5 g2 g3
  refine calls_tr Try.func5 Try.ntmps5 rfl rfl (St.refl _) ?_
  refine tr_seq ?_
  refine tr_region ?_
  refine tl_step rfl (oj_val (y_assign fe_c) ?_)
  refine tl_nil ?_
  refine tx_then ?_
  refine tr_seq ?_
  refine tr_region ?_
  refine tl_step rfl (oj_val (y_move (fe_t rfl)) ?_)
  refine tl_step rfl (oj_val (y_move (fe_t rfl)) ?_)
  refine tl_step rfl (oj_val (y_move (fe_t rfl)) ?_)
  refine tl_step rfl (oj_val (y_move (fe_t rfl)) ?_)
  refine tl_step rfl (oj_callv Try.call23 fe_f (fel_cons (fe_t rfl) (fel_cons (fe_t rfl) (fel_cons (fe_t rfl) (fel_cons (fe_t rfl) fel_nil)))) (fun w' hS => play_C num den burst A n c l w' (Rd.below hr hS.below) hn hm  hg hs er her hne) ?_)
  refine tl_step rfl (oj_val (y_move (fe_t rfl)) ?_)
  refine tl_step rfl (oj_val (y_extract (fe_t rfl) rfl) ?_)
  refine tl_step rfl (oj_val (y_extract (fe_t rfl) rfl) ?_)
  refine tl_step rfl (oj_val (y_extract (fe_t rfl) rfl) ?_)
  refine tl_step rfl (oj_alloc Try.zeroValue43 (fun ob => ?_))
  refine tl_step rfl (oj_val (y_assign (fe_t rfl)) ?_)
  refine tl_step rfl (oj_storeW 0 Try.sizeOf43 (fe_t rfl) (fe_t rfl) rfl rfl rfl rfl rfl (?_))
  refine tl_step rfl (oj_val (y_assign (fe_t rfl)) ?_)
  refine tl_nil ?_
  refine tx_then ?_
  refine tr_seq ?_
  refine tr_region ?_
  refine tl_step rfl (oj_val (y_move (fe_t rfl)) ?_)
  refine tl_step rfl (oj_val (y_move (fe_t rfl)) ?_)
  refine tl_step rfl (oj_val (y_move (fe_t rfl)) ?_)
  refine tl_step rfl (oj_val ((fun {u0 u1 u2} hx hb => y_build (is := [0, 1, 2]) (vs := [u0, u1, u2]) (cs := [u0, u1, u2, .int .i64 0, .int .i64 0]) rfl hx hb) (fel_cons (fe_t rfl) (fel_cons (fe_t rfl) (fel_cons (fe_t rfl) fel_nil))) (by kernel_rfl)) ?_)
  refine tl_step rfl (oj_alloc Try.zeroValue43 (fun bb => ?_))
  refine tl_step rfl (oj_storeW 0 Try.sizeOf43 (fe_t rfl) (fe_t rfl) rfl rfl rfl rfl rfl (?_))
  refine tl_nil ?_
  refine tx_then ?_
  refine tr_seq ?_
  refine tr_region ?_
  refine tl_step rfl (oj_val (y_assign fe_c) ?_)
  refine tl_nil ?_
  refine tx_then ?_
  refine tr_seq ?_
  refine tr_seq ?_
  refine tr_region ?_
  refine tl_step rfl (oj_val (y_ldbA 0 Try.isAgg43 Try.sizeOf43 (fe_t rfl) rfl rfl rfl) ?_)
  refine tl_step rfl (oj_callv Try.call24 fe_f (fel_cons (fe_t rfl) fel_nil) (fun w' hS => irightE num den burst true w' hg) ?_)
  refine tl_step rfl (oj_val (y_not (fe_t rfl)) ?_)
  refine tl_nil ?_
  refine tx_then ?_
  refine tr_condf (fe_t rfl) ?_
  refine tr_skip ?_
  refine tx_then ?_
  refine tr_seq ?_
  refine tr_seq ?_
  refine tr_region ?_
  refine tl_step rfl (oj_val (y_assign fe_c) ?_)
  refine tl_nil ?_
  refine tx_then ?_
  refine tr_block ?_
  refine tr_loop2 [13, 14, 38, 39, 40, 41, 42, 43, 44, 45, 46, 47, 48, 49, 50, 51, 52, 53, 54, 55, 56, 57, 58, 59] (fun (k : Nat) (f : Int) => [(14, .int .i64 (k : Int)), (13, .int .i64 f)]) 0 (fun (k : Nat) (f : Int) => []) (fun (k : Nat) (f : Int) => 1 ≤ k ∧ f = 0) (fun (k : Nat) (f : Int) => n - k) (1) (0) (cov_cons (by first | rfl | exact v_int (by omega) | exact v_bool (by simp [*])) (cov_cons (by first | rfl | exact v_int (by omega) | exact v_bool (by simp [*])) (cov_nil))) (fun w h => h) ?_ ?_
  · try dsimp only
    exact ⟨by omega, rfl⟩
  intro k f hp
  obtain ⟨hk, rfl⟩ := hp
  refine tr_seq ?_
  refine tr_seq ?_
  refine tr_region ?_
  refine tl_step rfl (oj_val (y_move (fe_t rfl)) ?_)
  refine tl_step rfl (oj_val (y_move (fe_t rfl)) ?_)
  refine tl_step rfl (oj_val (y_len Try.underlying40 (fe_t rfl)) ?_)
  refine tl_step rfl (oj_val (y_lss (fe_t rfl) (fe_t rfl)) ?_)
  refine tl_step rfl (oj_val (y_move (fe_t rfl)) ?_)
  refine tl_splitp (d := 42) rfl (fun hq1 => ?_) (fun hq2 => ?_)
  · try (exfalso; omega)
    all_goals
      refine tl_want rfl rfl rfl (oj_val (y_move (fe_t rfl)) ?_)
      refine tl_want rfl rfl rfl (oj_val (y_eq (fe_t rfl) fe_c) ?_)
      refine tl_step rfl (oj_val (y_pickt (fe_t rfl) (fe_t rfl)) ?_)
      refine tl_nil ?_
      refine tx_then ?_
      refine tr_condp (fe_t rfl) (fun hq3 => ?_) (fun hq4 => ?_)
      · try (exfalso; omega)
        all_goals
          refine tr_skip ?_
          refine tx_then ?_
          refine tr_seq ?_
          refine tr_block ?_
          refine tr_seq ?_
          refine tr_draw (sel _ [0, 1]) (fun w h => h.sel _ rfl (by decide)) rfl ?_
          refine ta_float (i := 0) rfl (by kernel_rfl) (wants_none rfl) (yq_of (y_move (fe_t rfl))) ?_
          refine ta_float (i := 1) rfl (by kernel_rfl) (wants_none rfl) (yq_of (y_move (fe_t rfl))) ?_
          refine ta_float (i := 2) rfl (by kernel_rfl) (wants_none rfl) (yq_of (y_dec (fe_t rfl) fe_c (by omega))) ?_
          refine ta_float (i := 3) rfl (by kernel_rfl) (wants_none rfl) (yq_of (y_index Try.underlying40 Try.sizeOf25 (fe_t rfl) (fe_t rfl) (rdl_out hr) (lenF (fun _ => rfl) hn) (by decide) (by omega) rfl)) ?_
          refine ta_float (i := 4) rfl (by kernel_rfl) (wants_none rfl) (yq_of (y_fieldAddrE (td := 3) Try.underlying25 rfl rfl Try.sizeOf3 rfl (fe_t rfl) (rdl_out hr) (by rw [lenF (s := 2) (fun _ => rfl) hn]; omega))) ?_
          refine ta_float (i := 5) rfl (by kernel_rfl) (wants_none rfl) (yq_of (y_ld Try.isAgg3 (fe_t rfl) (rdl_out hr) (getF (c := c2) (l := l) (fun _ => rfl) (by omega) 0 _ rfl))) ?_
          refine ta_float (i := 6) rfl (by kernel_rfl) (wants_none rfl) (yq_of (y_move (fe_t rfl))) ?_
          refine ta_float (i := 7) rfl (by kernel_rfl) (wants_none rfl) (yq_of (y_move (fe_t rfl))) ?_
          refine ta_float (i := 8) rfl (by kernel_rfl) (wants_none rfl) (yq_of (y_index Try.underlying40 Try.sizeOf25 (fe_t rfl) (fe_t rfl) (rdl_out hr) (lenF (fun _ => rfl) hn) (by decide) (by omega) rfl)) ?_
          refine ta_float (i := 9) rfl (by kernel_rfl) (wants_none rfl) (yq_of (y_fieldAddrE (td := 3) Try.underlying25 rfl rfl Try.sizeOf3 rfl (fe_t rfl) (rdl_out hr) (by rw [lenF (s := 2) (fun _ => rfl) hn]; omega))) ?_
          refine ta_float (i := 10) rfl (by kernel_rfl) (wants_none rfl) (yq_of (y_ld Try.isAgg3 (fe_t rfl) (rdl_out hr) (getF (c := c2) (l := l) (fun _ => rfl) (by omega) 0 _ rfl))) ?_
          refine ta_float (i := 11) rfl (by kernel_rfl) (wants_none rfl) (yq_of (y_gtr (fe_t rfl) (fe_t rfl))) ?_
          refine ta_done (by kernel_rfl) ?_
          refine tx_then ?_
          refine tr_condp (fe_t rfl) (fun hq5 => ?_) (fun hq6 => ?_)
          · exfalso; have := sorted_at hs (k := k) (by omega) (by omega); omega
          · try (exfalso; omega)
            all_goals
              refine tr_skip ?_
              refine tx_in ?_
              refine tx_then ?_
              refine tr_region ?_
              refine tl_step rfl (oj_val (y_move (fe_t rfl)) ?_)
              refine tl_step rfl (oj_val (y_inc (fe_t rfl) fe_c (by omega)) ?_)
              refine tl_step rfl (oj_val (y_assign (fe_t rfl)) ?_)
              refine tl_nil ?_
              apply tx_back2 (k + 1) (0)
              · exact (cov_cons (by first | rfl | exact v_int (by omega) | exact v_bool (by simp [*])) (cov_cons (by first | rfl | exact v_int (by omega) | exact v_bool (by simp [*])) (cov_nil)))
              · repeat (first | exact over_nil | refine over_put rfl ?_ | refine over_drop rfl ?_)
              · exact fun w h => h.pick [0, 1] _ rfl (by decide)
              · exact ⟨⟨by omega, by omega⟩, by omega⟩
      · try (exfalso; omega)
        all_goals
          refine tr_exit ?_
          refine tx_then_exit ?_
          refine tx_then_exit ?_
          refine tx_in_exit ?_
          refine tx_then ?_
          refine tr_seq ?_
          refine tr_region ?_
          refine tl_step rfl (oj_val (y_move (fe_t rfl)) ?_)
          refine tl_step rfl (oj_val (y_move (fe_t rfl)) ?_)
          refine tl_step rfl (oj_val (y_mul (fe_t rfl) (fe_t rfl) (by omega)) ?_)
          refine tl_step rfl (oj_val (y_fieldAddr (td := 3) Try.underlying43 rfl rfl Try.sizeOf3 (o' := 3) rfl (fe_t rfl)) ?_)
          refine tl_step rfl (oj_store1 0 Try.sizeOf3 (fe_t rfl) (fe_t rfl) rfl rfl rfl rfl (?_))
          refine tl_nil ?_
          refine tx_then ?_
          refine tr_seq ?_
          refine tr_region ?_
          refine tl_step rfl (oj_val (y_assign fe_c) ?_)
          refine tl_nil ?_
          refine tx_then ?_
          refine tr_seq ?_
          refine tr_seq ?_
          refine tr_region ?_
          refine tl_step rfl (oj_val (y_move (fe_t rfl)) ?_)
          refine tl_step rfl (oj_val (y_len Try.underlying40 (fe_t rfl)) ?_)
          refine tl_step rfl (oj_val (y_move fe_c) ?_)
          refine tl_nil ?_
          refine tx_then ?_
          refine tr_block ?_
          refine tr_add (r := vec 4 1 (.slice none 0 0) 0 []) vec_nil rfl ?_
          refine tr_loop3 [13, 15, 17, 18, 19, 20, 66, 67, 68, 69, 70, 71, 72, 73, 74, 75, 76, 77, 78, 79, 80, 81, 82, 83, 84, 85] (fun (k : Nat) (s : PS) (q : Vs) => [(66, .int .i64 (k : Int)), (13, .int .i64 s.2.2), (15, .slice q.A q.n q.c)]) 0 (fun (k : Nat) (s : PS) (q : Vs) => [(1, blk bb [(.int .i64 s.1.num), (.int .i64 s.1.den), (.int .i64 s.1.burst), (.int .i64 s.1.level), (.int .i64 s.1.at0)]), (0, vec 4 1 (.slice q.A q.n q.c) q.n q.xs)]) (fun (k : Nat) (s : PS) (q : Vs) => k ≤ n ∧ s = pst (⟨num, den, burst, burst * den, 0⟩ : Bkt) (l.take k) ∧ s.2.1.length ≤ k ∧ q.n = s.2.1.length ∧ q.xs = bools s.2.1) (fun (k : Nat) (s : PS) (q : Vs) => n - k) (0) (((⟨num, den, burst, burst * den, 0⟩ : Bkt), [], 0)) (⟨none, 0, 0, []⟩ : Vs) (cov_cons (by first | rfl | exact v_int (by omega) | exact v_bool (by simp [*])) (cov_cons (by first | rfl | exact v_int (by omega) | exact v_bool (by simp [*])) (cov_cons (by first | rfl | exact v_int (by omega) | exact v_bool (by simp [*])) (cov_nil)))) (fun w h => h) ?_ ?_
          · try dsimp only
            exact ⟨by omega, by simp [pst], by simp, rfl, rfl⟩
          intro k s q hp
          obtain ⟨hk, hps, hsl, hqn, hqx⟩ := hp
          refine tr_seq ?_
          refine tr_region ?_
          refine tl_step rfl (oj_val (y_lss (fe_t rfl) (fe_t rfl)) ?_)
          refine tl_nil ?_
          refine tx_then ?_
          refine tr_seq ?_
          refine tr_condp (fe_t rfl) (fun hq7 => ?_) (fun hq8 => ?_)
          · try (exfalso; omega)
            all_goals
              refine tr_skip ?_
              refine tx_then ?_
              refine tr_seq ?_
              refine tr_block ?_
              refine tr_seq ?_
              refine tr_region ?_
              refine tl_step rfl (oj_val (y_index Try.underlying40 Try.sizeOf25 (fe_t rfl) (fe_t rfl) (rdl_out hr) (lenF (fun _ => rfl) hn) (by decide) (by omega) rfl) ?_)
              refine tl_step rfl (oj_val (y_ldA Try.isAgg25 Try.sizeOf25 (fe_t rfl) (rdl_out hr) rfl (by decide) (getF (c := c2) (l := l) (fun _ => rfl) (by omega))) ?_)
              refine tl_step rfl (oj_alloc Try.zeroValue25 (fun b1 => ?_))
              refine tl_step rfl (oj_storeW 0 Try.sizeOf25 (fe_t rfl) (fe_t rfl) rfl rfl rfl rfl rfl (?_))
              refine tl_nil ?_
              refine tx_then ?_
              refine tr_seq ?_
              refine tr_seq ?_
              refine tr_region ?_
              refine tl_step rfl (oj_val (y_move (fe_t rfl)) ?_)
              refine tl_step rfl (oj_val (y_neq (fe_t rfl) fe_c) ?_)
              refine tl_nil ?_
              refine tx_then ?_
              refine tr_condp (fe_t rfl) (fun hq9 => ?_) (fun hq10 => ?_)
              · try (exfalso; omega)
                all_goals
                  refine tr_exit ?_
                  refine tx_then_exit ?_
                  refine tx_in_pass rfl ?_
                  refine tx_then_exit ?_
                  refine tx_then_exit ?_
                  refine tx_in_exit ?_
                  refine tx_then ?_
                  refine tr_seq ?_
                  refine tr_seq ?_
                  have e : s = pst (⟨num, den, burst, burst * den, 0⟩ : Bkt) l := by first | exact pst_end hps (by omega) | exact (pst_fault hps (by omega)).symm
                  have hf : s.2.2 = er := by rw [e, her]
                  refine tr_region ?_
                  refine tl_step rfl (oj_val (y_move (fe_t rfl)) ?_)
                  refine tl_step rfl (oj_val (y_neq (fe_t rfl) fe_c) ?_)
                  refine tl_nil ?_
                  refine tx_then ?_
                  refine tr_condp (fe_t rfl) (fun hq11 => ?_) (fun hq12 => ?_)
                  · try (exfalso; omega)
                    all_goals
                      refine tr_seq ?_
                      refine tr_region ?_
                      refine tl_step rfl (oj_val (y_move (fe_t rfl)) ?_)
                      refine tl_step rfl (oj_val (y_move (fe_t rfl)) ?_)
                      refine tl_step rfl (oj_val (y_eq (fe_t rfl) (fe_t rfl)) ?_)
                      refine tl_step rfl (oj_val (y_move (fe_t rfl)) ?_)
                      refine tl_splitp (d := 91) rfl (fun hq13 => ?_) (fun hq14 => ?_)
                      · try (exfalso; omega)
                        all_goals
                          refine tl_want rfl rfl rfl (oj_val (y_move (fe_t rfl)) ?_)
                          refine tl_want rfl rfl rfl (oj_val (y_len Try.underlying41 (fe_t rfl)) ?_)
                          refine tl_want rfl rfl rfl (oj_val (y_eq (fe_t rfl) fe_c) ?_)
                          refine tl_step rfl (oj_val (y_pickt (fe_t rfl) (fe_t rfl)) ?_)
                          refine tl_step rfl (oj_val (y_move (fe_t rfl)) ?_)
                          refine tl_splitp (d := 96) rfl (fun hq15 => ?_) (fun hq16 => ?_)
                          · try (exfalso; omega)
                            all_goals
                              refine tl_want rfl rfl rfl (oj_val (y_ldbA 3 Try.isAgg43 Try.sizeOf43 (fe_t rfl) rfl rfl rfl) ?_)
                              refine tl_want rfl rfl rfl (oj_val (y_build (is := []) (vs := []) (cs := [.int .i64 0, .int .i64 0, .int .i64 0, .int .i64 0, .int .i64 0]) rfl fel_nil (by kernel_rfl)) ?_)
                              refine tl_want rfl rfl rfl (oj_val (y_binop (fe_t rfl) (fe_t rfl) (fun w => eq_bkt true _ _ _ _ _ _ _ _ _ _ rfl w)) ?_)
                              refine tl_step rfl (oj_val (y_pickt (fe_t rfl) (fe_t rfl)) ?_)
                              refine tl_step rfl (oj_val (y_assign (fe_t rfl)) ?_)
                              refine tl_nil ?_
                              refine tx_then ?_
                              refine tr_ret ?_
                              refine tx_then_ret ?_
                              refine tx_ret (res1 Try.results5 (rok_t rfl)) (fun w' hS => ?_)
                              exact ⟨ret_bool (by first | rfl | (simp; done)), hS.pick [] _ rfl (by decide)⟩
                          · try (exfalso; omega)
                            all_goals
                              refine tl_skip rfl rfl rfl rfl ?_
                              refine tl_skip rfl rfl rfl rfl ?_
                              refine tl_skip rfl rfl rfl rfl ?_
                              refine tl_step rfl (oj_val (y_pickf (fe_t rfl) fe_c) ?_)
                              refine tl_step rfl (oj_val (y_assign (fe_t rfl)) ?_)
                              refine tl_nil ?_
                              refine tx_then ?_
                              refine tr_ret ?_
                              refine tx_then_ret ?_
                              refine tx_ret (res1 Try.results5 (rok_t rfl)) (fun w' hS => ?_)
                              exact ⟨ret_bool (by first | rfl | (simp; done)), hS.pick [] _ rfl (by decide)⟩
                      · try (exfalso; omega)
                        all_goals
                          refine tl_skip rfl rfl rfl rfl ?_
                          refine tl_skip rfl rfl rfl rfl ?_
                          refine tl_skip rfl rfl rfl rfl ?_
                          refine tl_step rfl (oj_val (y_pickf (fe_t rfl) fe_c) ?_)
                          refine tl_step rfl (oj_val (y_move (fe_t rfl)) ?_)
                          refine tl_skip rfl rfl rfl rfl ?_
                          refine tl_skip rfl rfl rfl rfl ?_
                          refine tl_skip rfl rfl rfl rfl ?_
                          refine tl_step rfl (oj_val (y_pickf (fe_t rfl) fe_c) ?_)
                          refine tl_step rfl (oj_val (y_assign (fe_t rfl)) ?_)
                          refine tl_nil ?_
                          refine tx_then ?_
                          refine tr_ret ?_
                          refine tx_then_ret ?_
                          refine tx_ret (res1 Try.results5 (rok_t rfl)) (fun w' hS => ?_)
                          exact ⟨ret_bool (by first | rfl | (simp; done)), hS.pick [] _ rfl (by decide)⟩
                  · exfalso; omega
              · try (exfalso; omega)
                all_goals
                  refine tr_skip ?_
                  refine tx_then ?_
                  refine tr_seq ?_
                  refine tr_region ?_
                  refine tl_step rfl (oj_val (y_ldbA 2 Try.isAgg43 Try.sizeOf43 (fe_t rfl) rfl rfl rfl) ?_)
                  refine tl_step rfl (oj_val (y_ldbA 0 Try.isAgg25 Try.sizeOf25 (fe_t rfl) rfl rfl rfl) ?_)
                  refine tl_step rfl (oj_callv Try.call25 fe_f (fel_cons (fe_t rfl) (fel_cons (fe_t rfl) fel_nil)) (fun w' hS => itakeE s.1 _ _ w') ?_)
                  refine tl_step rfl (oj_val (y_move (fe_t rfl)) ?_)
                  refine tl_step rfl (oj_val (y_extract (fe_t rfl) rfl) ?_)
                  refine tl_step rfl (oj_val (y_extract (fe_t rfl) rfl) ?_)
                  refine tl_step rfl (oj_val (y_extract (fe_t rfl) rfl) ?_)
                  refine tl_step rfl (oj_alloc Try.zeroValue43 (fun b2 => ?_))
                  refine tl_step rfl (oj_storeW 0 Try.sizeOf43 (fe_t rfl) (fe_t rfl) rfl rfl rfl rfl rfl (?_))
                  refine tl_step rfl (oj_val (y_assign (fe_t rfl)) ?_)
                  refine tl_step rfl (oj_val (y_assign (fe_t rfl)) ?_)
                  refine tl_nil ?_
                  refine tx_then ?_
                  refine tr_draw (sel _ [0, 1, 4]) (fun w h => h.sel _ rfl (by decide)) rfl ?_
                  refine ta_float (i := 0) rfl (by kernel_rfl) (wants_none rfl) (yq_of (y_ldbA 0 Try.isAgg43 Try.sizeOf43 (fe_t rfl) rfl rfl rfl)) ?_
                  refine ta_float (i := 1) rfl (by kernel_rfl) (wants_none rfl) (yq_of (y_move (fe_t rfl))) ?_
                  refine ta_float (i := 2) rfl (by kernel_rfl) (wants_none rfl) (yq_of (y_move (fe_t rfl))) ?_
                  refine ta_float (i := 5) rfl (by kernel_rfl) (wants_none rfl) (yq_of (y_move (fe_t rfl))) ?_
                  refine ta_one (i := 3) rfl (by kernel_rfl) (wants_none rfl) (oj_slice1 Try.underlying41 Try.sizeOf4 Try.zeroValue4 (fe_t rfl) (by decide) rfl (fun b3 => ⟨fun w h => h.pick [1, 2, 5] _ rfl (by decide), ?_⟩))
                  refine ta_one (i := 4) rfl (by kernel_rfl) (wants_none rfl) (oj_append47 (i := 3) (s := 1) (z := (.bool false)) (bytes := 1) Try.underlying41 (by kernel_rfl) (fe_t rfl) (fe_t rfl) rfl (rdl_blk 0 rfl) rfl (by decide) (by first | exact oneI | exact oneF (fun _ => rfl) | exact fun u hu => List.all_eq_true.1 (show List.all _ (fun x => x.oneCell') = true from rfl) u hu | (intro u hu; revert u hu; simp [Value.oneCell'])) (by decide) ⟨by omega, by decide⟩ (fun Aa1 ca1 hca1 => ⟨fun w h => h.pick [1, 2, 5] _ rfl (by decide), ?_⟩))
                  refine ta_one (i := 6) rfl (by kernel_rfl) (wants_none rfl) (oj_storeW 4 Try.sizeOf43 (fe_t rfl) (fe_t rfl) rfl rfl rfl rfl rfl (⟨fun w h => h.pick [1, 2, 5] _ rfl (by decide), ?_⟩))
                  refine ta_float (i := 7) rfl (by kernel_rfl) (wants_none rfl) (yq_of (y_assign (fe_t rfl))) ?_
                  refine ta_float (i := 8) rfl (by kernel_rfl) (wants_none rfl) (yq_of (y_assign (fe_t rfl))) ?_
                  refine ta_done (by kernel_rfl) ?_
                  refine tx_in ?_
                  refine tx_then ?_
                  refine tr_region ?_
                  refine tl_step rfl (oj_val (y_inc (fe_t rfl) fe_c (by omega)) ?_)
                  refine tl_step rfl (oj_val (y_move (fe_t rfl)) ?_)
                  refine tl_nil ?_
                  apply tx_back3 (k + 1) (((take s.1 l[k].1 l[k].2).1, s.2.1 ++ [(take s.1 l[k].1 l[k].2).2.1], (take s.1 l[k].1 l[k].2).2.2)) ((⟨_, _, _, _⟩ : Vs))
                  · exact (cov_cons (by first | rfl | exact v_int (by omega) | exact v_bool (by simp [*])) (cov_cons (by first | rfl | exact v_int (by omega) | exact v_bool (by simp [*])) (cov_cons (by first | rfl | exact v_int (by omega) | exact v_bool (by simp [*])) (cov_nil))))
                  · repeat (first | exact over_nil | refine over_put rfl ?_ | refine over_drop rfl ?_)
                  · exact fun w h => h.pick [3, 4, 5] _ rfl (by decide)
                  · refine ⟨⟨by omega, (pst_next (by omega) hps (by omega)).symm, by simp; omega, ?_, ?_⟩, by omega⟩
                    · simp; omega
                    · dsimp only
                      rw [hqx, bools_app]
                      rfl
          · try (exfalso; omega)
            all_goals
              refine tr_exit ?_
              refine tx_then_exit ?_
              refine tx_then_exit ?_
              refine tx_in_exit ?_
              refine tx_then ?_
              refine tr_seq ?_
              refine tr_seq ?_
              have e : s = pst (⟨num, den, burst, burst * den, 0⟩ : Bkt) l := by first | exact pst_end hps (by omega) | exact (pst_fault hps (by omega)).symm
              have hf : s.2.2 = er := by rw [e, her]
              refine tr_region ?_
              refine tl_step rfl (oj_val (y_move (fe_t rfl)) ?_)
              refine tl_step rfl (oj_val (y_neq (fe_t rfl) fe_c) ?_)
              refine tl_nil ?_
              refine tx_then ?_
              refine tr_condp (fe_t rfl) (fun hq17 => ?_) (fun hq18 => ?_)
              · try (exfalso; omega)
                all_goals
                  refine tr_seq ?_
                  refine tr_region ?_
                  refine tl_step rfl (oj_val (y_move (fe_t rfl)) ?_)
                  refine tl_step rfl (oj_val (y_move (fe_t rfl)) ?_)
                  refine tl_step rfl (oj_val (y_eq (fe_t rfl) (fe_t rfl)) ?_)
                  refine tl_step rfl (oj_val (y_move (fe_t rfl)) ?_)
                  refine tl_splitp (d := 91) rfl (fun hq19 => ?_) (fun hq20 => ?_)
                  · try (exfalso; omega)
                    all_goals
                      refine tl_want rfl rfl rfl (oj_val (y_move (fe_t rfl)) ?_)
                      refine tl_want rfl rfl rfl (oj_val (y_len Try.underlying41 (fe_t rfl)) ?_)
                      refine tl_want rfl rfl rfl (oj_val (y_eq (fe_t rfl) fe_c) ?_)
                      refine tl_step rfl (oj_val (y_pickt (fe_t rfl) (fe_t rfl)) ?_)
                      refine tl_step rfl (oj_val (y_move (fe_t rfl)) ?_)
                      refine tl_splitp (d := 96) rfl (fun hq21 => ?_) (fun hq22 => ?_)
                      · try (exfalso; omega)
                        all_goals
                          refine tl_want rfl rfl rfl (oj_val (y_ldbA 2 Try.isAgg43 Try.sizeOf43 (fe_t rfl) rfl rfl rfl) ?_)
                          refine tl_want rfl rfl rfl (oj_val (y_build (is := []) (vs := []) (cs := [.int .i64 0, .int .i64 0, .int .i64 0, .int .i64 0, .int .i64 0]) rfl fel_nil (by kernel_rfl)) ?_)
                          refine tl_want rfl rfl rfl (oj_val (y_binop (fe_t rfl) (fe_t rfl) (fun w => eq_bkt true _ _ _ _ _ _ _ _ _ _ rfl w)) ?_)
                          refine tl_step rfl (oj_val (y_pickt (fe_t rfl) (fe_t rfl)) ?_)
                          refine tl_step rfl (oj_val (y_assign (fe_t rfl)) ?_)
                          refine tl_nil ?_
                          refine tx_then ?_
                          refine tr_ret ?_
                          refine tx_then_ret ?_
                          refine tx_ret (res1 Try.results5 (rok_t rfl)) (fun w' hS => ?_)
                          exact ⟨ret_bool (by first | rfl | (simp; done)), hS.pick [] _ rfl (by decide)⟩
                      · try (exfalso; omega)
                        all_goals
                          refine tl_skip rfl rfl rfl rfl ?_
                          refine tl_skip rfl rfl rfl rfl ?_
                          refine tl_skip rfl rfl rfl rfl ?_
                          refine tl_step rfl (oj_val (y_pickf (fe_t rfl) fe_c) ?_)
                          refine tl_step rfl (oj_val (y_assign (fe_t rfl)) ?_)
                          refine tl_nil ?_
                          refine tx_then ?_
                          refine tr_ret ?_
                          refine tx_then_ret ?_
                          refine tx_ret (res1 Try.results5 (rok_t rfl)) (fun w' hS => ?_)
                          exact ⟨ret_bool (by first | rfl | (simp; done)), hS.pick [] _ rfl (by decide)⟩
                  · try (exfalso; omega)
                    all_goals
                      refine tl_skip rfl rfl rfl rfl ?_
                      refine tl_skip rfl rfl rfl rfl ?_
                      refine tl_skip rfl rfl rfl rfl ?_
                      refine tl_step rfl (oj_val (y_pickf (fe_t rfl) fe_c) ?_)
                      refine tl_step rfl (oj_val (y_move (fe_t rfl)) ?_)
                      refine tl_skip rfl rfl rfl rfl ?_
                      refine tl_skip rfl rfl rfl rfl ?_
                      refine tl_skip rfl rfl rfl rfl ?_
                      refine tl_step rfl (oj_val (y_pickf (fe_t rfl) fe_c) ?_)
                      refine tl_step rfl (oj_val (y_assign (fe_t rfl)) ?_)
                      refine tl_nil ?_
                      refine tx_then ?_
                      refine tr_ret ?_
                      refine tx_then_ret ?_
                      refine tx_ret (res1 Try.results5 (rok_t rfl)) (fun w' hS => ?_)
                      exact ⟨ret_bool (by first | rfl | (simp; done)), hS.pick [] _ rfl (by decide)⟩
              · exfalso; omega
  · try (exfalso; omega)
    all_goals
      refine tl_skip rfl rfl rfl rfl ?_
      refine tl_skip rfl rfl rfl rfl ?_
      refine tl_step rfl (oj_val (y_pickf (fe_t rfl) fe_c) ?_)
      refine tl_nil ?_
      refine tx_then ?_
      refine tr_condf (fe_t rfl) ?_
      refine tr_exit ?_
      refine tx_then_exit ?_
      refine tx_then_exit ?_
      refine tx_in_exit ?_
      refine tx_then ?_
      refine tr_seq ?_
      refine tr_region ?_
      refine tl_step rfl (oj_val (y_move (fe_t rfl)) ?_)
      refine tl_step rfl (oj_val (y_move (fe_t rfl)) ?_)
      refine tl_step rfl (oj_val (y_mul (fe_t rfl) (fe_t rfl) (by omega)) ?_)
      refine tl_step rfl (oj_val (y_fieldAddr (td := 3) Try.underlying43 rfl rfl Try.sizeOf3 (o' := 3) rfl (fe_t rfl)) ?_)
      refine tl_step rfl (oj_store1 0 Try.sizeOf3 (fe_t rfl) (fe_t rfl) rfl rfl rfl rfl (?_))
      refine tl_nil ?_
      refine tx_then ?_
      refine tr_seq ?_
      refine tr_region ?_
      refine tl_step rfl (oj_val (y_assign fe_c) ?_)
      refine tl_nil ?_
      refine tx_then ?_
      refine tr_seq ?_
      refine tr_seq ?_
      refine tr_region ?_
      refine tl_step rfl (oj_val (y_move (fe_t rfl)) ?_)
      refine tl_step rfl (oj_val (y_len Try.underlying40 (fe_t rfl)) ?_)
      refine tl_step rfl (oj_val (y_move fe_c) ?_)
      refine tl_nil ?_
      refine tx_then ?_
      refine tr_block ?_
      refine tr_add (r := vec 4 1 (.slice none 0 0) 0 []) vec_nil rfl ?_
      refine tr_loop3 [13, 15, 17, 18, 19, 20, 66, 67, 68, 69, 70, 71, 72, 73, 74, 75, 76, 77, 78, 79, 80, 81, 82, 83, 84, 85] (fun (k : Nat) (s : PS) (q : Vs) => [(66, .int .i64 (k : Int)), (13, .int .i64 s.2.2), (15, .slice q.A q.n q.c)]) 0 (fun (k : Nat) (s : PS) (q : Vs) => [(1, blk bb [(.int .i64 s.1.num), (.int .i64 s.1.den), (.int .i64 s.1.burst), (.int .i64 s.1.level), (.int .i64 s.1.at0)]), (0, vec 4 1 (.slice q.A q.n q.c) q.n q.xs)]) (fun (k : Nat) (s : PS) (q : Vs) => k ≤ n ∧ s = pst (⟨num, den, burst, burst * den, 0⟩ : Bkt) (l.take k) ∧ s.2.1.length ≤ k ∧ q.n = s.2.1.length ∧ q.xs = bools s.2.1) (fun (k : Nat) (s : PS) (q : Vs) => n - k) (0) (((⟨num, den, burst, burst * den, 0⟩ : Bkt), [], 0)) (⟨none, 0, 0, []⟩ : Vs) (cov_cons (by first | rfl | exact v_int (by omega) | exact v_bool (by simp [*])) (cov_cons (by first | rfl | exact v_int (by omega) | exact v_bool (by simp [*])) (cov_cons (by first | rfl | exact v_int (by omega) | exact v_bool (by simp [*])) (cov_nil)))) (fun w h => h) ?_ ?_
      · try dsimp only
        exact ⟨by omega, by simp [pst], by simp, rfl, rfl⟩
      intro k s q hp
      obtain ⟨hk, hps, hsl, hqn, hqx⟩ := hp
      refine tr_seq ?_
      refine tr_region ?_
      refine tl_step rfl (oj_val (y_lss (fe_t rfl) (fe_t rfl)) ?_)
      refine tl_nil ?_
      refine tx_then ?_
      refine tr_seq ?_
      refine tr_condp (fe_t rfl) (fun hq23 => ?_) (fun hq24 => ?_)
      · try (exfalso; omega)
        all_goals
          refine tr_skip ?_
          refine tx_then ?_
          refine tr_seq ?_
          refine tr_block ?_
          refine tr_seq ?_
          refine tr_region ?_
          refine tl_step rfl (oj_val (y_index Try.underlying40 Try.sizeOf25 (fe_t rfl) (fe_t rfl) (rdl_out hr) (lenF (fun _ => rfl) hn) (by decide) (by omega) rfl) ?_)
          refine tl_step rfl (oj_val (y_ldA Try.isAgg25 Try.sizeOf25 (fe_t rfl) (rdl_out hr) rfl (by decide) (getF (c := c2) (l := l) (fun _ => rfl) (by omega))) ?_)
          refine tl_step rfl (oj_alloc Try.zeroValue25 (fun b4 => ?_))
          refine tl_step rfl (oj_storeW 0 Try.sizeOf25 (fe_t rfl) (fe_t rfl) rfl rfl rfl rfl rfl (?_))
          refine tl_nil ?_
          refine tx_then ?_
          refine tr_seq ?_
          refine tr_seq ?_
          refine tr_region ?_
          refine tl_step rfl (oj_val (y_move (fe_t rfl)) ?_)
          refine tl_step rfl (oj_val (y_neq (fe_t rfl) fe_c) ?_)
          refine tl_nil ?_
          refine tx_then ?_
          refine tr_condp (fe_t rfl) (fun hq25 => ?_) (fun hq26 => ?_)
          · try (exfalso; omega)
            all_goals
              refine tr_exit ?_
              refine tx_then_exit ?_
              refine tx_in_pass rfl ?_
              refine tx_then_exit ?_
              refine tx_then_exit ?_
              refine tx_in_exit ?_
              refine tx_then ?_
              refine tr_seq ?_
              refine tr_seq ?_
              have e : s = pst (⟨num, den, burst, burst * den, 0⟩ : Bkt) l := by first | exact pst_end hps (by omega) | exact (pst_fault hps (by omega)).symm
              have hf : s.2.2 = er := by rw [e, her]
              refine tr_region ?_
              refine tl_step rfl (oj_val (y_move (fe_t rfl)) ?_)
              refine tl_step rfl (oj_val (y_neq (fe_t rfl) fe_c) ?_)
              refine tl_nil ?_
              refine tx_then ?_
              refine tr_condp (fe_t rfl) (fun hq27 => ?_) (fun hq28 => ?_)
              · try (exfalso; omega)
                all_goals
                  refine tr_seq ?_
                  refine tr_region ?_
                  refine tl_step rfl (oj_val (y_move (fe_t rfl)) ?_)
                  refine tl_step rfl (oj_val (y_move (fe_t rfl)) ?_)
                  refine tl_step rfl (oj_val (y_eq (fe_t rfl) (fe_t rfl)) ?_)
                  refine tl_step rfl (oj_val (y_move (fe_t rfl)) ?_)
                  refine tl_splitp (d := 91) rfl (fun hq29 => ?_) (fun hq30 => ?_)
                  · try (exfalso; omega)
                    all_goals
                      refine tl_want rfl rfl rfl (oj_val (y_move (fe_t rfl)) ?_)
                      refine tl_want rfl rfl rfl (oj_val (y_len Try.underlying41 (fe_t rfl)) ?_)
                      refine tl_want rfl rfl rfl (oj_val (y_eq (fe_t rfl) fe_c) ?_)
                      refine tl_step rfl (oj_val (y_pickt (fe_t rfl) (fe_t rfl)) ?_)
                      refine tl_step rfl (oj_val (y_move (fe_t rfl)) ?_)
                      refine tl_splitp (d := 96) rfl (fun hq31 => ?_) (fun hq32 => ?_)
                      · try (exfalso; omega)
                        all_goals
                          refine tl_want rfl rfl rfl (oj_val (y_ldbA 3 Try.isAgg43 Try.sizeOf43 (fe_t rfl) rfl rfl rfl) ?_)
                          refine tl_want rfl rfl rfl (oj_val (y_build (is := []) (vs := []) (cs := [.int .i64 0, .int .i64 0, .int .i64 0, .int .i64 0, .int .i64 0]) rfl fel_nil (by kernel_rfl)) ?_)
                          refine tl_want rfl rfl rfl (oj_val (y_binop (fe_t rfl) (fe_t rfl) (fun w => eq_bkt true _ _ _ _ _ _ _ _ _ _ rfl w)) ?_)
                          refine tl_step rfl (oj_val (y_pickt (fe_t rfl) (fe_t rfl)) ?_)
                          refine tl_step rfl (oj_val (y_assign (fe_t rfl)) ?_)
                          refine tl_nil ?_
                          refine tx_then ?_
                          refine tr_ret ?_
                          refine tx_then_ret ?_
                          refine tx_ret (res1 Try.results5 (rok_t rfl)) (fun w' hS => ?_)
                          exact ⟨ret_bool (by first | rfl | (simp; done)), hS.pick [] _ rfl (by decide)⟩
                      · try (exfalso; omega)
                        all_goals
                          refine tl_skip rfl rfl rfl rfl ?_
                          refine tl_skip rfl rfl rfl rfl ?_
                          refine tl_skip rfl rfl rfl rfl ?_
                          refine tl_step rfl (oj_val (y_pickf (fe_t rfl) fe_c) ?_)
                          refine tl_step rfl (oj_val (y_assign (fe_t rfl)) ?_)
                          refine tl_nil ?_
                          refine tx_then ?_
                          refine tr_ret ?_
                          refine tx_then_ret ?_
                          refine tx_ret (res1 Try.results5 (rok_t rfl)) (fun w' hS => ?_)
                          exact ⟨ret_bool (by first | rfl | (simp; done)), hS.pick [] _ rfl (by decide)⟩
                  · try (exfalso; omega)
                    all_goals
                      refine tl_skip rfl rfl rfl rfl ?_
                      refine tl_skip rfl rfl rfl rfl ?_
                      refine tl_skip rfl rfl rfl rfl ?_
                      refine tl_step rfl (oj_val (y_pickf (fe_t rfl) fe_c) ?_)
                      refine tl_step rfl (oj_val (y_move (fe_t rfl)) ?_)
                      refine tl_skip rfl rfl rfl rfl ?_
                      refine tl_skip rfl rfl rfl rfl ?_
                      refine tl_skip rfl rfl rfl rfl ?_
                      refine tl_step rfl (oj_val (y_pickf (fe_t rfl) fe_c) ?_)
                      refine tl_step rfl (oj_val (y_assign (fe_t rfl)) ?_)
                      refine tl_nil ?_
                      refine tx_then ?_
                      refine tr_ret ?_
                      refine tx_then_ret ?_
                      refine tx_ret (res1 Try.results5 (rok_t rfl)) (fun w' hS => ?_)
                      exact ⟨ret_bool (by first | rfl | (simp; done)), hS.pick [] _ rfl (by decide)⟩
              · exfalso; omega
          · try (exfalso; omega)
            all_goals
              refine tr_skip ?_
              refine tx_then ?_
              refine tr_seq ?_
              refine tr_region ?_
              refine tl_step rfl (oj_val (y_ldbA 2 Try.isAgg43 Try.sizeOf43 (fe_t rfl) rfl rfl rfl) ?_)
              refine tl_step rfl (oj_val (y_ldbA 0 Try.isAgg25 Try.sizeOf25 (fe_t rfl) rfl rfl rfl) ?_)
              refine tl_step rfl (oj_callv Try.call25 fe_f (fel_cons (fe_t rfl) (fel_cons (fe_t rfl) fel_nil)) (fun w' hS => itakeE s.1 _ _ w') ?_)
              refine tl_step rfl (oj_val (y_move (fe_t rfl)) ?_)
              refine tl_step rfl (oj_val (y_extract (fe_t rfl) rfl) ?_)
              refine tl_step rfl (oj_val (y_extract (fe_t rfl) rfl) ?_)
              refine tl_step rfl (oj_val (y_extract (fe_t rfl) rfl) ?_)
              refine tl_step rfl (oj_alloc Try.zeroValue43 (fun b5 => ?_))
              refine tl_step rfl (oj_storeW 0 Try.sizeOf43 (fe_t rfl) (fe_t rfl) rfl rfl rfl rfl rfl (?_))
              refine tl_step rfl (oj_val (y_assign (fe_t rfl)) ?_)
              refine tl_step rfl (oj_val (y_assign (fe_t rfl)) ?_)
              refine tl_nil ?_
              refine tx_then ?_
              refine tr_draw (sel _ [0, 1, 4]) (fun w h => h.sel _ rfl (by decide)) rfl ?_
              refine ta_float (i := 0) rfl (by kernel_rfl) (wants_none rfl) (yq_of (y_ldbA 0 Try.isAgg43 Try.sizeOf43 (fe_t rfl) rfl rfl rfl)) ?_
              refine ta_float (i := 1) rfl (by kernel_rfl) (wants_none rfl) (yq_of (y_move (fe_t rfl))) ?_
              refine ta_float (i := 2) rfl (by kernel_rfl) (wants_none rfl) (yq_of (y_move (fe_t rfl))) ?_
              refine ta_float (i := 5) rfl (by kernel_rfl) (wants_none rfl) (yq_of (y_move (fe_t rfl))) ?_
              refine ta_one (i := 3) rfl (by kernel_rfl) (wants_none rfl) (oj_slice1 Try.underlying41 Try.sizeOf4 Try.zeroValue4 (fe_t rfl) (by decide) rfl (fun b6 => ⟨fun w h => h.pick [1, 2, 5] _ rfl (by decide), ?_⟩))
              refine ta_one (i := 4) rfl (by kernel_rfl) (wants_none rfl) (oj_append47 (i := 3) (s := 1) (z := (.bool false)) (bytes := 1) Try.underlying41 (by kernel_rfl) (fe_t rfl) (fe_t rfl) rfl (rdl_blk 0 rfl) rfl (by decide) (by first | exact oneI | exact oneF (fun _ => rfl) | exact fun u hu => List.all_eq_true.1 (show List.all _ (fun x => x.oneCell') = true from rfl) u hu | (intro u hu; revert u hu; simp [Value.oneCell'])) (by decide) ⟨by omega, by decide⟩ (fun Aa2 ca2 hca2 => ⟨fun w h => h.pick [1, 2, 5] _ rfl (by decide), ?_⟩))
              refine ta_one (i := 6) rfl (by kernel_rfl) (wants_none rfl) (oj_storeW 4 Try.sizeOf43 (fe_t rfl) (fe_t rfl) rfl rfl rfl rfl rfl (⟨fun w h => h.pick [1, 2, 5] _ rfl (by decide), ?_⟩))
              refine ta_float (i := 7) rfl (by kernel_rfl) (wants_none rfl) (yq_of (y_assign (fe_t rfl))) ?_
              refine ta_float (i := 8) rfl (by kernel_rfl) (wants_none rfl) (yq_of (y_assign (fe_t rfl))) ?_
              refine ta_done (by kernel_rfl) ?_
              refine tx_in ?_
              refine tx_then ?_
              refine tr_region ?_
              refine tl_step rfl (oj_val (y_inc (fe_t rfl) fe_c (by omega)) ?_)
              refine tl_step rfl (oj_val (y_move (fe_t rfl)) ?_)
              refine tl_nil ?_
              apply tx_back3 (k + 1) (((take s.1 l[k].1 l[k].2).1, s.2.1 ++ [(take s.1 l[k].1 l[k].2).2.1], (take s.1 l[k].1 l[k].2).2.2)) ((⟨_, _, _, _⟩ : Vs))
              · exact (cov_cons (by first | rfl | exact v_int (by omega) | exact v_bool (by simp [*])) (cov_cons (by first | rfl | exact v_int (by omega) | exact v_bool (by simp [*])) (cov_cons (by first | rfl | exact v_int (by omega) | exact v_bool (by simp [*])) (cov_nil))))
              · repeat (first | exact over_nil | refine over_put rfl ?_ | refine over_drop rfl ?_)
              · exact fun w h => h.pick [3, 4, 5] _ rfl (by decide)
              · refine ⟨⟨by omega, (pst_next (by omega) hps (by omega)).symm, by simp; omega, ?_, ?_⟩, by omega⟩
                · simp; omega
                · dsimp only
                  rw [hqx, bools_app]
                  rfl
      · try (exfalso; omega)
        all_goals
          refine tr_exit ?_
          refine tx_then_exit ?_
          refine tx_then_exit ?_
          refine tx_in_exit ?_
          refine tx_then ?_
          refine tr_seq ?_
          refine tr_seq ?_
          have e : s = pst (⟨num, den, burst, burst * den, 0⟩ : Bkt) l := by first | exact pst_end hps (by omega) | exact (pst_fault hps (by omega)).symm
          have hf : s.2.2 = er := by rw [e, her]
          refine tr_region ?_
          refine tl_step rfl (oj_val (y_move (fe_t rfl)) ?_)
          refine tl_step rfl (oj_val (y_neq (fe_t rfl) fe_c) ?_)
          refine tl_nil ?_
          refine tx_then ?_
          refine tr_condp (fe_t rfl) (fun hq33 => ?_) (fun hq34 => ?_)
          · try (exfalso; omega)
            all_goals
              refine tr_seq ?_
              refine tr_region ?_
              refine tl_step rfl (oj_val (y_move (fe_t rfl)) ?_)
              refine tl_step rfl (oj_val (y_move (fe_t rfl)) ?_)
              refine tl_step rfl (oj_val (y_eq (fe_t rfl) (fe_t rfl)) ?_)
              refine tl_step rfl (oj_val (y_move (fe_t rfl)) ?_)
              refine tl_splitp (d := 91) rfl (fun hq35 => ?_) (fun hq36 => ?_)
              · try (exfalso; omega)
                all_goals
                  refine tl_want rfl rfl rfl (oj_val (y_move (fe_t rfl)) ?_)
                  refine tl_want rfl rfl rfl (oj_val (y_len Try.underlying41 (fe_t rfl)) ?_)
                  refine tl_want rfl rfl rfl (oj_val (y_eq (fe_t rfl) fe_c) ?_)
                  refine tl_step rfl (oj_val (y_pickt (fe_t rfl) (fe_t rfl)) ?_)
                  refine tl_step rfl (oj_val (y_move (fe_t rfl)) ?_)
                  refine tl_splitp (d := 96) rfl (fun hq37 => ?_) (fun hq38 => ?_)
                  · try (exfalso; omega)
                    all_goals
                      refine tl_want rfl rfl rfl (oj_val (y_ldbA 2 Try.isAgg43 Try.sizeOf43 (fe_t rfl) rfl rfl rfl) ?_)
                      refine tl_want rfl rfl rfl (oj_val (y_build (is := []) (vs := []) (cs := [.int .i64 0, .int .i64 0, .int .i64 0, .int .i64 0, .int .i64 0]) rfl fel_nil (by kernel_rfl)) ?_)
                      refine tl_want rfl rfl rfl (oj_val (y_binop (fe_t rfl) (fe_t rfl) (fun w => eq_bkt true _ _ _ _ _ _ _ _ _ _ rfl w)) ?_)
                      refine tl_step rfl (oj_val (y_pickt (fe_t rfl) (fe_t rfl)) ?_)
                      refine tl_step rfl (oj_val (y_assign (fe_t rfl)) ?_)
                      refine tl_nil ?_
                      refine tx_then ?_
                      refine tr_ret ?_
                      refine tx_then_ret ?_
                      refine tx_ret (res1 Try.results5 (rok_t rfl)) (fun w' hS => ?_)
                      exact ⟨ret_bool (by first | rfl | (simp; done)), hS.pick [] _ rfl (by decide)⟩
                  · try (exfalso; omega)
                    all_goals
                      refine tl_skip rfl rfl rfl rfl ?_
                      refine tl_skip rfl rfl rfl rfl ?_
                      refine tl_skip rfl rfl rfl rfl ?_
                      refine tl_step rfl (oj_val (y_pickf (fe_t rfl) fe_c) ?_)
                      refine tl_step rfl (oj_val (y_assign (fe_t rfl)) ?_)
                      refine tl_nil ?_
                      refine tx_then ?_
                      refine tr_ret ?_
                      refine tx_then_ret ?_
                      refine tx_ret (res1 Try.results5 (rok_t rfl)) (fun w' hS => ?_)
                      exact ⟨ret_bool (by first | rfl | (simp; done)), hS.pick [] _ rfl (by decide)⟩
              · try (exfalso; omega)
                all_goals
                  refine tl_skip rfl rfl rfl rfl ?_
                  refine tl_skip rfl rfl rfl rfl ?_
                  refine tl_skip rfl rfl rfl rfl ?_
                  refine tl_step rfl (oj_val (y_pickf (fe_t rfl) fe_c) ?_)
                  refine tl_step rfl (oj_val (y_move (fe_t rfl)) ?_)
                  refine tl_skip rfl rfl rfl rfl ?_
                  refine tl_skip rfl rfl rfl rfl ?_
                  refine tl_skip rfl rfl rfl rfl ?_
                  refine tl_step rfl (oj_val (y_pickf (fe_t rfl) fe_c) ?_)
                  refine tl_step rfl (oj_val (y_assign (fe_t rfl)) ?_)
                  refine tl_nil ?_
                  refine tx_then ?_
                  refine tr_ret ?_
                  refine tx_then_ret ?_
                  refine tx_ret (res1 Try.results5 (rok_t rfl)) (fun w' hS => ?_)
                  exact ⟨ret_bool (by first | rfl | (simp; done)), hS.pick [] _ rfl (by decide)⟩
          · exfalso; omega

end Go.Proofs.Ytdfjeoifeladfaa.Bucket
