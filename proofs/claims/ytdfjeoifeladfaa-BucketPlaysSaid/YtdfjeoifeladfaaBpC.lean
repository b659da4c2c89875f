/- Walks: bucket.Play, case C. -/
import Derived.Test.YtdfjeoifeladfaaBpM
namespace Go.Proofs.Ytdfjeoifeladfaa.Bucket
open Go.RowKit Go.Proofs.Ytdfjeoifeladfaa.E

set_option maxRecDepth 100000 in
set_option maxHeartbeats 4000000 in
theorem play_C (num den burst : Int) (A : Option Addr) (n c : Nat) (l : List (Int × Int)) (w : World) (hr : Rd w A (l.flatMap c2)) (hn : l.length = n) (hm : n ≤ 140737488355328) (hg : rng num den burst = true) (hs : sorted l = true) (er : Int) (her : (pst (⟨num, den, burst, burst * den, 0⟩ : Bkt) l).2.2 = er) (hne : er ≠ 0) :
    Calls Try.prog 23 #[(.int .i64 num), (.int .i64 den), (.int .i64 burst), .slice A n c] w fun e w' => e = .returned (.tuple #[.slice none 0 0, .agg #[(.int .i64 0), (.int .i64 0), (.int .i64 0), (.int .i64 0), (.int .i64 0)], (.int .i64 er)]) ∧ E.St w w' [] := by
  refine calls_tr Try.func23 Try.ntmps23 rfl rfl (St.refl _) ?_
  refine tr_seq ?_
  refine tr_region ?_
  refine tl_step rfl (oj_val (y_assign fe_c) ?_)
  refine tl_step rfl (oj_alloc Try.zeroValue43 (fun rb => ?_))
  refine tl_step rfl (oj_val (y_assign fe_c) ?_)
  refine tl_nil ?_
  refine tx_then ?_
  refine tr_seq ?_
  refine tr_region ?_
  refine tl_step rfl (oj_val (y_move (fe_t rfl)) ?_)
  refine tl_step rfl (oj_val (y_move (fe_t rfl)) ?_)
  refine tl_step rfl (oj_val (y_move (fe_t rfl)) ?_)
  refine tl_step rfl (oj_callv Try.call76 fe_f (fel_cons (fe_t rfl) (fel_cons (fe_t rfl) (fel_cons (fe_t rfl) fel_nil))) (fun w' hS => of_bel (full_ok num den burst w' hg)) ?_)
  refine tl_step rfl (oj_val (y_move (fe_t rfl)) ?_)
  refine tl_step rfl (oj_val (y_extract (fe_t rfl) rfl) ?_)
  refine tl_step rfl (oj_val (y_extract (fe_t rfl) rfl) ?_)
  refine tl_step rfl (oj_alloc Try.zeroValue43 (fun bb => ?_))
  refine tl_step rfl (oj_storeW 0 Try.sizeOf43 (fe_t rfl) (fe_t rfl) rfl rfl rfl rfl rfl (?_))
  refine tl_step rfl (oj_val (y_assign (fe_t rfl)) ?_)
  refine tl_nil ?_
  refine tx_then ?_
  refine tr_seq ?_
  refine tr_seq ?_
  refine tr_region ?_
  refine tl_step rfl (oj_val (y_move (fe_t rfl)) ?_)
  refine tl_step rfl (oj_val (y_neq (fe_t rfl) fe_c) ?_)
  refine tl_nil ?_
  refine tx_then ?_
  refine tr_condp (fe_t rfl) (fun hq1 => ?_) (fun hq2 => ?_)
  · exfalso; omega
  · refine tr_skip ?_
    refine tx_then ?_
    refine tr_seq ?_
    refine tr_seq ?_
    refine tr_region ?_
    refine tl_step rfl (oj_val (y_move (fe_t rfl)) ?_)
    refine tl_step rfl (oj_val (y_len Try.underlying40 (fe_t rfl)) ?_)
    refine tl_step rfl (oj_val (y_move fe_c) ?_)
    refine tl_nil ?_
    refine tx_then ?_
    refine tr_block ?_
    refine tr_loop1 [8, 10, 13, 14, 34, 35, 36, 37, 38, 39, 40, 41, 42, 43, 44, 45, 46, 47, 48, 49, 50, 51, 52, 53] (fun (k : Nat) => [(34, .int .i64 (k : Int))]) 0 (fun (k : Nat) => []) (fun (k : Nat) => k ≤ n) (fun (k : Nat) => n - k) (0) (cov_cons (by first | rfl | exact v_int (by omega) | exact v_bool (by simp [*])) (cov_nil)) (fun w h => h) ?_ ?_
    · try dsimp only
      omega
    intro k hp
    refine tr_seq ?_
    refine tr_region ?_
    refine tl_step rfl (oj_val (y_lss (fe_t rfl) (fe_t rfl)) ?_)
    refine tl_nil ?_
    refine tx_then ?_
    refine tr_seq ?_
    refine tr_condp (fe_t rfl) (fun hq3 => ?_) (fun hq4 => ?_)
    · refine tr_skip ?_
      refine tx_then ?_
      refine tr_seq ?_
      refine tr_block ?_
      refine tr_seq ?_
      refine tr_region ?_
      refine tl_step rfl (oj_val (y_move (fe_t rfl)) ?_)
      refine tl_step rfl (oj_val (y_index Try.underlying40 Try.sizeOf25 (fe_t rfl) (fe_t rfl) (rdl_out hr) (lenF (fun _ => rfl) hn) (by decide) (by omega) rfl) ?_)
      refine tl_step rfl (oj_val (y_ldA Try.isAgg25 Try.sizeOf25 (fe_t rfl) (rdl_out hr) rfl (by decide) (getF (c := c2) (l := l) (fun _ => rfl) (by omega))) ?_)
      refine tl_step rfl (oj_alloc Try.zeroValue25 (fun b1 => ?_))
      refine tl_step rfl (oj_val (y_assign (fe_t rfl)) ?_)
      refine tl_step rfl (oj_storeW 0 Try.sizeOf25 (fe_t rfl) (fe_t rfl) rfl rfl rfl rfl rfl (?_))
      refine tl_nil ?_
      refine tx_then ?_
      refine tr_seq ?_
      refine tr_draw (sel _ [0, 1, 2]) (fun w h => h.sel _ rfl (by decide)) rfl ?_
      refine ta_float (i := 0) rfl (by kernel_rfl) (wants_none rfl) (yq_of (y_move (fe_t rfl))) ?_
      refine ta_float (i := 1) rfl (by kernel_rfl) (wants_none rfl) (yq_of (y_gtr (fe_t rfl) fe_c)) ?_
      refine ta_float (i := 2) rfl (by kernel_rfl) (wants_none rfl) (yq_of (y_move (fe_t rfl))) ?_
      refine ta_splitp (d := 41) rfl (fun hq5 => ?_) (fun hq6 => ?_)
      · refine ta_float (i := 3) rfl (by kernel_rfl) (wants_t rfl rfl rfl) (yq_of (y_fieldAddr (td := 3) Try.underlying25 rfl rfl Try.sizeOf3 (o' := 0) rfl (fe_t rfl))) ?_
        refine ta_float (i := 4) rfl (by kernel_rfl) (wants_t rfl rfl rfl) (yq_of (y_ldb 0 Try.isAgg3 (fe_t rfl) rfl rfl)) ?_
        refine ta_float (i := 5) rfl (by kernel_rfl) (wants_t rfl rfl rfl) (yq_of (y_move (fe_t rfl))) ?_
        refine ta_float (i := 6) rfl (by kernel_rfl) (wants_t rfl rfl rfl) (yq_of (y_move (fe_t rfl))) ?_
        refine ta_float (i := 7) rfl (by kernel_rfl) (wants_t rfl rfl rfl) (yq_of (y_dec (fe_t rfl) fe_c (by omega))) ?_
        refine ta_float (i := 8) rfl (by kernel_rfl) (wants_t rfl rfl rfl) (yq_of (y_index Try.underlying40 Try.sizeOf25 (fe_t rfl) (fe_t rfl) (rdl_out hr) (lenF (fun _ => rfl) hn) (by decide) (by omega) rfl)) ?_
        refine ta_float (i := 9) rfl (by kernel_rfl) (wants_t rfl rfl rfl) (yq_of (y_fieldAddrE (td := 3) Try.underlying25 rfl rfl Try.sizeOf3 rfl (fe_t rfl) (rdl_out hr) (by rw [lenF (s := 2) (fun _ => rfl) hn]; omega))) ?_
        refine ta_float (i := 10) rfl (by kernel_rfl) (wants_t rfl rfl rfl) (yq_of (y_ld Try.isAgg3 (fe_t rfl) (rdl_out hr) (getF (c := c2) (l := l) (fun _ => rfl) (by omega) 0 _ rfl))) ?_
        refine ta_float (i := 11) rfl (by kernel_rfl) (wants_t rfl rfl rfl) (yq_of (y_lss (fe_t rfl) (fe_t rfl))) ?_
        refine ta_float (i := 12) rfl (by kernel_rfl) (wants_none rfl) (yq_of (y_pickt (fe_t rfl) (fe_t rfl))) ?_
        refine ta_done (by kernel_rfl) ?_
        refine tx_then ?_
        refine tr_condp (fe_t rfl) (fun hq7 => ?_) (fun hq8 => ?_)
        · exfalso; have := sorted_at hs (k := k) (by omega) (by omega); omega
        · refine tr_skip ?_
          refine tx_in ?_
          refine tx_then ?_
          refine tr_region ?_
          refine tl_step rfl (oj_val (y_inc (fe_t rfl) fe_c (by omega)) ?_)
          refine tl_step rfl (oj_val (y_move (fe_t rfl)) ?_)
          refine tl_nil ?_
          apply tx_back1 (k + 1)
          · exact (cov_cons (by first | rfl | exact v_int (by omega) | exact v_bool (by simp [*])) (cov_nil))
          · repeat (first | exact over_nil | refine over_put rfl ?_ | refine over_drop rfl ?_)
          · exact fun w h => h.pick [1, 2] _ rfl (by decide)
          · exact ⟨by omega, by omega⟩
      · refine ta_skip (i := 3) rfl (by kernel_rfl) (wants_f rfl rfl rfl rfl) ?_
        refine ta_skip (i := 4) rfl (by kernel_rfl) (wants_f rfl rfl rfl rfl) ?_
        refine ta_skip (i := 5) rfl (by kernel_rfl) (wants_f rfl rfl rfl rfl) ?_
        refine ta_skip (i := 6) rfl (by kernel_rfl) (wants_f rfl rfl rfl rfl) ?_
        refine ta_skip (i := 7) rfl (by kernel_rfl) (wants_f rfl rfl rfl rfl) ?_
        refine ta_skip (i := 8) rfl (by kernel_rfl) (wants_f rfl rfl rfl rfl) ?_
        refine ta_skip (i := 9) rfl (by kernel_rfl) (wants_f rfl rfl rfl rfl) ?_
        refine ta_skip (i := 10) rfl (by kernel_rfl) (wants_f rfl rfl rfl rfl) ?_
        refine ta_skip (i := 11) rfl (by kernel_rfl) (wants_f rfl rfl rfl rfl) ?_
        refine ta_float (i := 12) rfl (by kernel_rfl) (wants_none rfl) (yq_of (y_pickf (fe_t rfl) fe_c)) ?_
        refine ta_done (by kernel_rfl) ?_
        refine tx_then ?_
        refine tr_condf (fe_t rfl) ?_
        refine tr_skip ?_
        refine tx_in ?_
        refine tx_then ?_
        refine tr_region ?_
        refine tl_step rfl (oj_val (y_inc (fe_t rfl) fe_c (by omega)) ?_)
        refine tl_step rfl (oj_val (y_move (fe_t rfl)) ?_)
        refine tl_nil ?_
        apply tx_back1 (k + 1)
        · exact (cov_cons (by first | rfl | exact v_int (by omega) | exact v_bool (by simp [*])) (cov_nil))
        · repeat (first | exact over_nil | refine over_put rfl ?_ | refine over_drop rfl ?_)
        · exact fun w h => h.pick [1, 2] _ rfl (by decide)
        · exact ⟨by omega, by omega⟩
    · refine tr_exit ?_
      refine tx_then_exit ?_
      refine tx_then_exit ?_
      refine tx_in_exit ?_
      refine tx_then ?_
      refine tr_seq ?_
      refine tr_region ?_
      refine tl_step rfl (oj_val (y_assign fe_c) ?_)
      refine tl_nil ?_
      refine tx_then ?_
      refine tr_seq ?_
      refine tr_seq ?_
      refine tr_region ?_
      refine tl_step rfl (oj_val (y_move (fe_t rfl)) ?_)
      refine tl_step rfl (oj_val (y_len Try.underlying40 (fe_t rfl)) ?_)
      refine tl_step rfl (oj_val (y_move fe_c) ?_)
      refine tl_nil ?_
      refine tx_then ?_
      refine tr_block ?_
      refine tr_add (r := vec 4 1 (.slice none 0 0) 0 []) vec_nil rfl ?_
      refine tr_loop3 [8, 10, 15, 17, 18, 19, 20, 56, 57, 58, 59, 60, 61, 62, 63, 64, 65, 66, 67, 68, 69, 70, 71, 72, 73, 74, 75, 76] (fun (k : Nat) (s : PS) (q : Vs) => [(56, .int .i64 (k : Int)), (15, .slice q.A q.n q.c)]) 0 (fun (k : Nat) (s : PS) (q : Vs) => [(1, blk bb [(.int .i64 s.1.num), (.int .i64 s.1.den), (.int .i64 s.1.burst), (.int .i64 s.1.level), (.int .i64 s.1.at0)]), (0, vec 4 1 (.slice q.A q.n q.c) q.n q.xs)]) (fun (k : Nat) (s : PS) (q : Vs) => k ≤ n ∧ s = pst (⟨num, den, burst, burst * den, 0⟩ : Bkt) (l.take k) ∧ s.2.1.length ≤ k ∧ q.n = s.2.1.length ∧ q.xs = bools s.2.1 ∧ s.2.2 = 0) (fun (k : Nat) (s : PS) (q : Vs) => n - k) (0) (((⟨num, den, burst, burst * den, 0⟩ : Bkt), [], 0)) (⟨none, 0, 0, []⟩ : Vs) (cov_cons (by first | rfl | exact v_int (by omega) | exact v_bool (by simp [*])) (cov_cons (by first | rfl | exact v_int (by omega) | exact v_bool (by simp [*])) (cov_nil))) (fun w h => h) ?_ ?_
      · try dsimp only
        exact ⟨by omega, by simp [pst], by simp, rfl, rfl, rfl⟩
      intro k s q hp
      obtain ⟨hk, hps, hsl, hqn, hqx, hse⟩ := hp
      refine tr_seq ?_
      refine tr_region ?_
      refine tl_step rfl (oj_val (y_lss (fe_t rfl) (fe_t rfl)) ?_)
      refine tl_nil ?_
      refine tx_then ?_
      refine tr_seq ?_
      refine tr_condp (fe_t rfl) (fun hq9 => ?_) (fun hq10 => ?_)
      · refine tr_skip ?_
        refine tx_then ?_
        refine tr_seq ?_
        refine tr_block ?_
        refine tr_seq ?_
        refine tr_region ?_
        refine tl_step rfl (oj_val (y_index Try.underlying40 Try.sizeOf25 (fe_t rfl) (fe_t rfl) (rdl_out hr) (lenF (fun _ => rfl) hn) (by decide) (by omega) rfl) ?_)
        refine tl_step rfl (oj_val (y_ldA Try.isAgg25 Try.sizeOf25 (fe_t rfl) (rdl_out hr) rfl (by decide) (getF (c := c2) (l := l) (fun _ => rfl) (by omega))) ?_)
        refine tl_step rfl (oj_alloc Try.zeroValue25 (fun b2 => ?_))
        refine tl_step rfl (oj_storeW 0 Try.sizeOf25 (fe_t rfl) (fe_t rfl) rfl rfl rfl rfl rfl (?_))
        refine tl_nil ?_
        refine tx_then ?_
        refine tr_seq ?_
        refine tr_region ?_
        refine tl_step rfl (oj_val (y_ldbA 2 Try.isAgg43 Try.sizeOf43 (fe_t rfl) rfl rfl rfl) ?_)
        refine tl_step rfl (oj_val (y_ldbA 0 Try.isAgg25 Try.sizeOf25 (fe_t rfl) rfl rfl rfl) ?_)
        refine tl_step rfl (oj_callv Try.call77 fe_f (fel_cons (fe_t rfl) (fel_cons (fe_t rfl) fel_nil)) (fun w' hS => takeE s.1 _ _ w') ?_)
        refine tl_step rfl (oj_val (y_move (fe_t rfl)) ?_)
        refine tl_step rfl (oj_val (y_extract (fe_t rfl) rfl) ?_)
        refine tl_step rfl (oj_val (y_extract (fe_t rfl) rfl) ?_)
        refine tl_step rfl (oj_val (y_extract (fe_t rfl) rfl) ?_)
        refine tl_step rfl (oj_alloc Try.zeroValue43 (fun b3 => ?_))
        refine tl_step rfl (oj_storeW 0 Try.sizeOf43 (fe_t rfl) (fe_t rfl) rfl rfl rfl rfl rfl (?_))
        refine tl_step rfl (oj_val (y_assign (fe_t rfl)) ?_)
        refine tl_step rfl (oj_val (y_assign (fe_t rfl)) ?_)
        refine tl_nil ?_
        refine tx_then ?_
        refine tr_seq ?_
        refine tr_seq ?_
        refine tr_region ?_
        refine tl_step rfl (oj_val (y_move (fe_t rfl)) ?_)
        refine tl_step rfl (oj_val (y_neq (fe_t rfl) fe_c) ?_)
        refine tl_nil ?_
        refine tx_then ?_
        refine tr_condp (fe_t rfl) (fun hq11 => ?_) (fun hq12 => ?_)
        · refine tr_seq ?_
          refine tr_region ?_
          refine tl_step rfl (oj_val (y_build (is := []) (vs := []) (cs := [.int .i64 0, .int .i64 0, .int .i64 0, .int .i64 0, .int .i64 0]) rfl fel_nil (by kernel_rfl)) ?_)
          refine tl_step rfl (oj_val (y_move (fe_t rfl)) ?_)
          refine tl_step rfl (oj_val (y_assign fe_c) ?_)
          refine tl_step rfl (oj_storeW 4 Try.sizeOf43 (fe_t rfl) (fe_t rfl) rfl rfl rfl rfl rfl (?_))
          refine tl_step rfl (oj_val (y_assign (fe_t rfl)) ?_)
          refine tl_nil ?_
          refine tx_then ?_
          refine tr_ret ?_
          refine tx_then_ret ?_
          refine tx_in_ret ?_
          refine tx_then_ret ?_
          refine tx_then_ret ?_
          refine tx_in_ret ?_
          refine tx_then_ret ?_
          refine tx_ret (res3 Try.results23 (rok_t rfl) (rok_b 4 Try.isAgg43 Try.sizeOf43 rfl rfl rfl) (rok_t rfl)) (fun w' hS => ?_)
          have e := pst_err (l := l) (k := k) (by omega) hps hse (by omega)
          rw [her] at e
          exact ⟨by rw [e]; rfl, hS.pick [] _ rfl (by decide)⟩
        · refine tr_skip ?_
          refine tx_then ?_
          refine tr_draw (sel _ [0, 1, 4]) (fun w h => h.sel _ rfl (by decide)) rfl ?_
          refine ta_float (i := 0) rfl (by kernel_rfl) (wants_none rfl) (yq_of (y_ldbA 0 Try.isAgg43 Try.sizeOf43 (fe_t rfl) rfl rfl rfl)) ?_
          refine ta_float (i := 1) rfl (by kernel_rfl) (wants_none rfl) (yq_of (y_move (fe_t rfl))) ?_
          refine ta_float (i := 2) rfl (by kernel_rfl) (wants_none rfl) (yq_of (y_move (fe_t rfl))) ?_
          refine ta_one (i := 3) rfl (by kernel_rfl) (wants_none rfl) (oj_slice1 Try.underlying41 Try.sizeOf4 Try.zeroValue4 (fe_t rfl) (by decide) rfl (fun b4 => ⟨fun w h => h.pick [1, 2, 5] _ rfl (by decide), ?_⟩))
          refine ta_one (i := 4) rfl (by kernel_rfl) (wants_none rfl) (oj_append47 (i := 3) (s := 1) (z := (.bool false)) (bytes := 1) Try.underlying41 (by kernel_rfl) (fe_t rfl) (fe_t rfl) rfl (rdl_blk 0 rfl) rfl (by decide) (by first | exact oneI | exact oneF (fun _ => rfl) | exact fun u hu => List.all_eq_true.1 (show List.all _ (fun x => x.oneCell') = true from rfl) u hu | (intro u hu; revert u hu; simp [Value.oneCell'])) (by decide) ⟨by omega, by decide⟩ (fun Aa1 ca1 hca1 => ⟨fun w h => h.pick [1, 2, 5] _ rfl (by decide), ?_⟩))
          refine ta_one (i := 5) rfl (by kernel_rfl) (wants_none rfl) (oj_storeW 4 Try.sizeOf43 (fe_t rfl) (fe_t rfl) rfl rfl rfl rfl rfl (⟨fun w h => h.pick [1, 2, 5] _ rfl (by decide), ?_⟩))
          refine ta_float (i := 6) rfl (by kernel_rfl) (wants_none rfl) (yq_of (y_assign (fe_t rfl))) ?_
          refine ta_done (by kernel_rfl) ?_
          refine tx_in ?_
          refine tx_then ?_
          refine tr_region ?_
          refine tl_step rfl (oj_val (y_inc (fe_t rfl) fe_c (by omega)) ?_)
          refine tl_step rfl (oj_val (y_move (fe_t rfl)) ?_)
          refine tl_nil ?_
          apply tx_back3 (k + 1) (((take s.1 l[k].1 l[k].2).1, s.2.1 ++ [(take s.1 l[k].1 l[k].2).2.1], (take s.1 l[k].1 l[k].2).2.2)) ((⟨_, _, _, _⟩ : Vs))
          · exact (cov_cons (by first | rfl | exact v_int (by omega) | exact v_bool (by simp [*])) (cov_cons (by first | rfl | exact v_int (by omega) | exact v_bool (by simp [*])) (cov_nil)))
          · repeat (first | exact over_nil | refine over_put rfl ?_ | refine over_drop rfl ?_)
          · exact fun w h => h.pick [3, 4, 5] _ rfl (by decide)
          · refine ⟨⟨by omega, (pst_next (by omega) hps hse).symm, by simp; omega, ?_, ?_, by dsimp only; omega⟩, by omega⟩
            · simp; omega
            · dsimp only
              rw [hqx, bools_app]
              rfl
      · refine tr_exit ?_
        refine tx_then_exit ?_
        refine tx_then_exit ?_
        refine tx_in_exit ?_
        refine tx_then ?_
        refine tr_seq ?_
        refine tr_draw (sel _ [0, 1]) (fun w h => h.sel _ rfl (by decide)) rfl ?_
        refine ta_float (i := 0) rfl (by kernel_rfl) (wants_none rfl) (yq_of (y_move (fe_t rfl))) ?_
        refine ta_float (i := 1) rfl (by kernel_rfl) (wants_none rfl) (yq_of (y_ldbA 1 Try.isAgg43 Try.sizeOf43 (fe_t rfl) rfl rfl rfl)) ?_
        refine ta_float (i := 2) rfl (by kernel_rfl) (wants_none rfl) (yq_of (y_assign (fe_t rfl))) ?_
        refine ta_one (i := 3) rfl (by kernel_rfl) (wants_none rfl) (oj_storeW 2 Try.sizeOf43 (fe_t rfl) (fe_t rfl) rfl rfl rfl rfl rfl (⟨fun w h => h.pick [0, 1] _ rfl (by decide), ?_⟩))
        refine ta_float (i := 4) rfl (by kernel_rfl) (wants_none rfl) (yq_of (y_assign fe_c)) ?_
        refine ta_done (by kernel_rfl) ?_
        refine tx_then ?_
        refine tr_ret ?_
        refine tx_ret (res3 Try.results23 (rok_t rfl) (rok_b 2 Try.isAgg43 Try.sizeOf43 rfl rfl rfl) (rok_t rfl)) (fun w' hS => ?_)
        have e := pst_end (l := l) (k := k) hps (by omega)
        exfalso
        rw [← e] at her
        omega

end Go.Proofs.Ytdfjeoifeladfaa.Bucket
