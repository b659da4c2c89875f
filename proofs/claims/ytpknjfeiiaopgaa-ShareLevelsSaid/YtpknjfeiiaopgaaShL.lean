/- share.Level. -/
import Derived.Test.YtpknjfeiiaopgaaShW
import Derived.Test.YtpknjfeiiaopgaaEF
namespace Go.Proofs.Ytpknjfeiiaopgaa.Share
open Go.RowKit Go.Proofs.Ytpknjfeiiaopgaa.E

set_option maxRecDepth 100000 in
set_option maxHeartbeats 2000000 in
theorem level_bad (A B : Option Addr) (n m c d : Nat) (ws ts : List Int) (w : World) (hw : Rd w A (ws.map (.int .i64))) (ht : Rd w B (ts.map (.int .i64))) (hwl : ws.length = n) (htl : ts.length = m) (hn : n ≤ 140737488355328) (hm : m ≤ 140737488355328) {all : Int} (hne : ¬ lw all ws ts = 0) :
    Calls Try.prog 40 #[(.int .i64 all), .slice A n c, .slice B m d] w fun e w' => e = .returned (.tuple #[.agg #[(.int .i64 0), (.int .i64 0)], (.int .i64 (lw all ws ts))]) ∧ St w w' [] := by
  refine calls_tr Try.func40 Try.ntmps40 rfl rfl (St.refl _) ?_
  refine tr_seq ?_
  refine tr_region ?_
  refine tl_step rfl (oj_box (fe_t rfl) (fun b4 => ?_))
  refine tl_step rfl (oj_box (fe_t rfl) (fun b5 => ?_))
  refine tl_step rfl (oj_alloc Try.zeroValue76 (fun fr => ?_))
  refine tl_step rfl (oj_val (y_assign fe_c) ?_)
  refine tl_nil ?_
  refine tx_then ?_
  refine tr_seq ?_
  refine tr_seq ?_
  refine tr_region ?_
  refine tl_step rfl (oj_val (y_move (fe_t rfl)) ?_)
  refine tl_step rfl (oj_val (y_ldb 2 Try.isAgg27 (fe_t rfl) rfl rfl) ?_)
  refine tl_step rfl (oj_val (y_ldb 1 Try.isAgg27 (fe_t rfl) rfl rfl) ?_)
  refine tl_step rfl (oj_callv Try.call43 fe_f (fel_cons (fe_t rfl) (fel_cons (fe_t rfl) (fel_cons (fe_t rfl) fel_nil))) (fun w' hS => wrongE A B n m c d ws ts w' (Rd.below hw hS.below) (Rd.below ht hS.below) hwl htl hn hm) ?_)
  refine tl_step rfl (oj_val (y_assign (fe_t rfl)) ?_)
  refine tl_nil ?_
  refine tx_then ?_
  refine tr_seq ?_
  refine tr_region ?_
  refine tl_step rfl (oj_val (y_move (fe_t rfl)) ?_)
  refine tl_step rfl (oj_val (y_neq (fe_t rfl) fe_c) ?_)
  refine tl_nil ?_
  refine tx_then ?_
  refine tr_condp (fe_t rfl) (fun hq1 => ?_) (fun hq2 => ?_)
  · try (exfalso; omega)
    all_goals
      refine tr_seq ?_
      refine tr_region ?_
      refine tl_step rfl (oj_val (y_build (is := []) (vs := []) (cs := [.int .i64 0, .int .i64 0]) rfl fel_nil (by kernel_rfl)) ?_)
      refine tl_step rfl (oj_val (y_move (fe_t rfl)) ?_)
      refine tl_step rfl (oj_storeW 0 Try.sizeOf76 (fe_t rfl) (fe_t rfl) rfl rfl rfl rfl rfl (?_))
      refine tl_step rfl (oj_val (y_assign (fe_t rfl)) ?_)
      refine tl_nil ?_
      refine tx_then ?_
      refine tr_ret ?_
      refine tx_then_ret ?_
      refine tx_ret (res2 Try.results40 (rok_b 0 Try.isAgg76 Try.sizeOf76 rfl rfl rfl) (rok_t rfl)) (fun w' hS => ?_)
      exact ⟨rfl, hS.pick [] _ rfl (by decide)⟩
  · exact absurd (by simpa using hq2) hne

set_option maxRecDepth 100000 in
set_option maxHeartbeats 4000000 in
theorem level_ok (A B : Option Addr) (n m c d : Nat) (ws ts : List Int) (w : World) (hw : Rd w A (ws.map (.int .i64))) (ht : Rd w B (ts.map (.int .i64))) (hwl : ws.length = n) (htl : ts.length = m) (hn : n ≤ 140737488355328) (hm : m ≤ 140737488355328) {all : Int} (hz : lw all ws ts = 0) :
    Calls Try.prog 40 #[(.int .i64 all), .slice A n c, .slice B m d] w fun e w' => ∃ S : Nat → Bool, Gd all (gI ws) (gI ts) n S ∧ e = .returned (.tuple #[.agg #[(.int .i64 ((lev all (gI ws) (gI ts) n S).1)), (.int .i64 ((lev all (gI ws) (gI ts) n S).2))], (.int .i64 0)]) ∧ St w w' [] := by
  refine calls_tr Try.func40 Try.ntmps40 rfl rfl (St.refl _) ?_
  refine tr_seq ?_
  refine tr_region ?_
  refine tl_step rfl (oj_box (fe_t rfl) (fun b4 => ?_))
  refine tl_step rfl (oj_box (fe_t rfl) (fun b5 => ?_))
  refine tl_step rfl (oj_alloc Try.zeroValue76 (fun fr => ?_))
  refine tl_step rfl (oj_val (y_assign fe_c) ?_)
  refine tl_nil ?_
  refine tx_then ?_
  refine tr_seq ?_
  refine tr_seq ?_
  refine tr_region ?_
  refine tl_step rfl (oj_val (y_move (fe_t rfl)) ?_)
  refine tl_step rfl (oj_val (y_ldb 2 Try.isAgg27 (fe_t rfl) rfl rfl) ?_)
  refine tl_step rfl (oj_val (y_ldb 1 Try.isAgg27 (fe_t rfl) rfl rfl) ?_)
  refine tl_step rfl (oj_callv Try.call43 fe_f (fel_cons (fe_t rfl) (fel_cons (fe_t rfl) (fel_cons (fe_t rfl) fel_nil))) (fun w' hS => wrongE A B n m c d ws ts w' (Rd.below hw hS.below) (Rd.below ht hS.below) hwl htl hn hm) ?_)
  refine tl_step rfl (oj_val (y_assign (fe_t rfl)) ?_)
  refine tl_nil ?_
  refine tx_then ?_
  refine tr_seq ?_
  refine tr_region ?_
  refine tl_step rfl (oj_val (y_move (fe_t rfl)) ?_)
  refine tl_step rfl (oj_val (y_neq (fe_t rfl) fe_c) ?_)
  refine tl_nil ?_
  refine tx_then ?_
  refine tr_condp (fe_t rfl) (fun hq1 => ?_) (fun hq2 => ?_)
  · exact absurd hz hq1
  · try (exfalso; omega)
    all_goals
      refine tr_skip ?_
      refine tx_then ?_
      refine tr_seq ?_
      have hlen := lw_len hz
      obtain rfl : n = m := by omega
      have hr := lw_rg hz (n := n) (by omega)
      have hn16 := hr.n16
      have hall := (lw_zero hz).1
      refine tr_region ?_
      refine tl_step rfl (oj_val (y_ldb 2 Try.isAgg27 (fe_t rfl) rfl rfl) ?_)
      refine tl_step rfl (oj_val (y_len Try.underlying27 (fe_t rfl)) ?_)
      refine tl_step rfl (oj_make (n := n) (z := (.int .i64 0)) (bytes := 8) Try.underlying27 (by kernel_rfl) (fe_t rfl) (fe_t rfl) rfl ⟨by omega, by decide⟩ (fun g1 => ?_))
      refine tl_step rfl (oj_val (y_assign (fe_t rfl)) ?_)
      refine tl_nil ?_
      refine tx_then ?_
      refine tr_seq ?_
      refine tr_region ?_
      refine tl_step rfl (oj_val (y_assign fe_c) ?_)
      refine tl_nil ?_
      refine tx_then ?_
      refine tr_seq ?_
      refine tr_seq ?_
      refine tr_region ?_
      refine tl_step rfl (oj_val (y_move (fe_t rfl)) ?_)
      refine tl_step rfl (oj_val (y_len Try.underlying27 (fe_t rfl)) ?_)
      refine tl_step rfl (oj_val (y_move fe_c) ?_)
      refine tl_nil ?_
      refine tx_then ?_
      refine tr_block ?_
      refine tr_loop3 [10, 11, 28, 29, 30, 31, 32, 33, 34, 35, 36, 37, 38, 39, 40, 41] (fun (i : Nat) (q : Int) (vx : List Value) => [(28, .int .i64 (i : Int)), (10, .int .i64 q)]) 0 (fun (i : Nat) (q : Int) (vx : List Value) => [(0, vec 3 1 (.slice (some ⟨g1, 0, none⟩) n n) n vx)]) (fun (i : Nat) (q : Int) (vx : List Value) => i ≤ n ∧ q = sm (gI ts) i ∧ vx = fillV n i) (fun (i : Nat) (q : Int) (vx : List Value) => n - i) (0) (0) (_) (cov_cons (by first | rfl | exact v_int (by omega) | exact v_bool (by simp [*])) (cov_cons (by first | rfl | exact v_int (by omega) | exact v_bool (by simp [*])) (cov_nil))) (fun w h => h) ?_ ?_
      · try dsimp only
        exact ⟨by omega, rfl, fill_zero⟩
      intro i q vx hp
      obtain ⟨hi, hq0, hvx⟩ := hp
      have hvl : vx.length = n := by rw [hvx]; simp [fillV]
      refine tr_seq ?_
      refine tr_region ?_
      refine tl_step rfl (oj_val (y_lss (fe_t rfl) (fe_t rfl)) ?_)
      refine tl_nil ?_
      refine tx_then ?_
      refine tr_seq ?_
      refine tr_condp (fe_t rfl) (fun hq3 => ?_) (fun hq4 => ?_)
      · try (exfalso; omega)
        all_goals
          refine tr_skip ?_
          refine tx_then ?_
          refine tr_seq ?_
          refine tr_block ?_
          refine tr_seq ?_
          refine tr_region ?_
          refine tl_step rfl (oj_val (y_move (fe_t rfl)) ?_)
          refine tl_step rfl (oj_val (y_assign (fe_t rfl)) ?_)
          refine tl_nil ?_
          refine tx_then ?_
          refine tr_seq ?_
          refine tr_region ?_
          refine tl_step rfl (oj_val (y_move (fe_t rfl)) ?_)
          refine tl_step rfl (oj_val (y_move (fe_t rfl)) ?_)
          refine tl_step rfl (oj_val (y_move (fe_t rfl)) ?_)
          refine tl_step rfl (oj_val (y_index Try.underlying27 Try.sizeOf3 (fe_t rfl) (fe_t rfl) (rdl_vec 0 rfl) (by first | (simp; done) | (simp [oV]; omega) | omega) (by decide) (by omega) (Nat.mul_one _)) ?_)
          refine tl_step rfl (oj_storeE1 (i := 0) Try.sizeOf3 (fe_t rfl) (fe_t rfl) rfl rfl rfl (by omega) (?_))
          refine tl_nil ?_
          refine tx_then ?_
          have hti := hr.t i (by omega)
          have hsb := sm_le (f := gI ts) (m := 1000) (n := i) (fun k hk => (hr.t k (by omega)).2)
          have hsn := sm_nn (f := gI ts) (n := i) (fun k hk => by have := hr.t k (by omega); omega)
          refine tr_region ?_
          refine tl_step rfl (oj_val (y_move (fe_t rfl)) ?_)
          refine tl_step rfl (oj_val (y_ldb 2 Try.isAgg27 (fe_t rfl) rfl rfl) ?_)
          refine tl_step rfl (oj_val (y_move (fe_t rfl)) ?_)
          refine tl_step rfl (oj_val (y_index Try.underlying27 Try.sizeOf3 (fe_t rfl) (fe_t rfl) (rdl_out ht) (by simp; omega) (by decide) (by omega) (Nat.mul_one _)) ?_)
          refine tl_step rfl (oj_val (y_ld Try.isAgg3 (fe_t rfl) (rdl_out ht) (getg (zs := ts) (by omega))) ?_)
          refine tl_step rfl (oj_val (y_add (fe_t rfl) (fe_t rfl) (by omega)) ?_)
          refine tl_step rfl (oj_val (y_assign (fe_t rfl)) ?_)
          refine tl_nil ?_
          refine tx_in ?_
          refine tx_then ?_
          refine tr_region ?_
          refine tl_step rfl (oj_val (y_inc (fe_t rfl) fe_c (by omega)) ?_)
          refine tl_step rfl (oj_val (y_move (fe_t rfl)) ?_)
          refine tl_nil ?_
          apply tx_back3 (i + 1) (_) (_)
          · exact (cov_cons (by first | rfl | exact v_int (by omega) | exact v_bool (by simp [*])) (cov_cons (by first | rfl | exact v_int (by omega) | exact v_bool (by simp [*])) (cov_nil)))
          · repeat (first | exact over_nil | refine over_put rfl ?_ | refine over_drop rfl ?_)
          · exact fun w h => h.pick [0, 1, 2, 3] _ rfl (by decide)
          · exact ⟨⟨by omega, by rw [hq0]; rfl, by rw [hvx]; exact fill_set (by omega)⟩, by omega⟩
      · try (exfalso; omega)
        all_goals
          refine tr_exit ?_
          refine tx_then_exit ?_
          refine tx_then_exit ?_
          refine tx_in_exit ?_
          refine tx_then ?_
          refine tr_seq ?_
          obtain rfl : n = i := by omega
          rw [fill_all] at hvx
          subst hvx
          refine tr_region ?_
          refine tl_step rfl (oj_val (y_move (fe_t rfl)) ?_)
          refine tl_step rfl (oj_val (y_makeFunc (fel_cons (fe_t rfl) (fel_cons (fe_t rfl) fel_nil))) ?_)
          refine tl_step rfl (oj_call2 Try.call83 fe_f (fel_cons (fe_t rfl) (fel_cons (fe_t rfl) fel_nil)) (fun w' hS => sortE hw ht hwl htl hr (hS.pick [0, 3, 2, 1] [_, _, _, _] rfl (by decide))) (fun o hO => ?_))
          refine tl_nil ?_
          refine tx_then ?_
          refine tr_seq ?_
          refine tr_region ?_
          refine tl_step rfl (oj_val (y_move (fe_t rfl)) ?_)
          refine tl_step rfl (oj_val (y_assign (fe_t rfl)) ?_)
          refine tl_nil ?_
          refine tx_then ?_
          refine tr_seq ?_
          refine tr_seq ?_
          refine tr_region ?_
          refine tl_step rfl (oj_val (y_move (fe_t rfl)) ?_)
          refine tl_step rfl (oj_val (y_len Try.underlying27 (fe_t rfl)) ?_)
          refine tl_step rfl (oj_val (y_move fe_c) ?_)
          refine tl_nil ?_
          refine tx_then ?_
          refine tr_block ?_
          refine tr_loop4 [7, 10, 12, 14, 48, 49, 50, 51, 52, 53, 54, 55, 56, 57, 58, 59, 60, 61, 62, 63, 64, 65, 66, 67, 68, 69, 70, 71, 72, 73, 74, 75, 76, 77, 78, 79, 80] (fun (i : Nat) (S : Nat → Bool) (lf : Int) (q : Int) => [(48, .int .i64 (i : Int)), (12, .int .i64 lf), (10, .int .i64 q)]) 0 (fun (i : Nat) (S : Nat → Bool) (lf : Int) (q : Int) => []) (fun (i : Nat) (S : Nat → Bool) (lf : Int) (q : Int) => i ≤ n ∧ (∀ k, S k = true ↔ k ∈ o.take i) ∧ lf = Lf all (gI ws) n S ∧ q = Df (gI ts) n S ∧ 0 ≤ Lf all (gI ws) n S ∧ ∀ k, k < n → S k = true → gI ws k * Df (gI ts) n S ≤ Lf all (gI ws) n S * gI ts k) (fun (i : Nat) (S : Nat → Bool) (lf : Int) (q : Int) => n - i) (0) (fun _ => false) (_) (_) (cov_cons (by first | rfl | exact v_int (by omega) | exact v_bool (by simp [*])) (cov_cons (by first | rfl | exact v_int (by omega) | exact v_bool (by simp [*])) (cov_cons (by first | rfl | exact v_int (by omega) | exact v_bool (by simp [*])) (cov_nil)))) (fun w h => h) ?_ ?_
          · try dsimp only
            exact ⟨by omega, fun k => by simp, by simp [Lf, sm_zero], by simp [Df]; exact hq0, by simp [Lf, sm_zero]; omega, fun k _ h => by simp at h⟩
          intro i S lf q hp
          obtain ⟨hi, hSt, hlf, hqd, h0, h1⟩ := hp
          have hol := hO.len
          have hol2 : (oV o).length = n := by rw [← hol]; simp [oV]
          have hLl := L_le (all := all) (S := S) hr
          have hDl := D_le (S := S) hr
          have hDn := D_nn (S := S) hr
          refine tr_seq ?_
          refine tr_region ?_
          refine tl_step rfl (oj_val (y_lss (fe_t rfl) (fe_t rfl)) ?_)
          refine tl_nil ?_
          refine tx_then ?_
          refine tr_seq ?_
          refine tr_condp (fe_t rfl) (fun hq5 => ?_) (fun hq6 => ?_)
          · try (exfalso; omega)
            all_goals
              refine tr_skip ?_
              refine tx_then ?_
              refine tr_seq ?_
              refine tr_block ?_
              refine tr_seq ?_
              obtain ⟨j, hj⟩ : ∃ j, o.getD i 0 = j := ⟨_, rfl⟩
              have hjn := ord_lt hO (by omega) hj
              have hjs := ord_new hO (by omega) hj hSt
              have hwj := hr.w j hjn
              have htj := hr.t j hjn
              have hdp := D_pos hr hjn hjs
              have hp1 := mul_bd (a := gI ws j) (b := q) hwj (show 0 ≤ q ∧ q ≤ 16000 by omega)
              have hp2 := mul_bd (a := lf) (b := gI ts j) (show 0 ≤ lf ∧ lf ≤ 1048576 by omega) (show 0 ≤ gI ts j ∧ gI ts j ≤ 1000 by omega)
              refine tr_region ?_
              refine tl_step rfl (oj_val (y_index Try.underlying27 Try.sizeOf3 (fe_t rfl) (fe_t rfl) (rdl_vec 0 rfl) (by first | (simp; done) | (simp [oV]; omega) | omega) (by decide) (by omega) (Nat.mul_one _)) ?_)
              refine tl_step rfl (oj_val (y_ld (v := (.int .i64 ((j : Int)))) Try.isAgg3 (fe_t rfl) (rdl_vec 0 rfl) (getO hj (by omega))) ?_)
              refine tl_step rfl (oj_val (y_assign (fe_t rfl)) ?_)
              refine tl_nil ?_
              refine tx_then ?_
              refine tr_seq ?_
              refine tr_seq ?_
              refine tb_draw 13 (sel _ [0, 1, 2, 3]) (fun w h => h.sel _ rfl (by decide)) rfl ?_
              refine tb_float (i := 0) rfl (by kernel_rfl) rfl (wants_none rfl) (yq_of (y_ldb 1 Try.isAgg27 (fe_t rfl) rfl rfl)) ?_
              refine tb_float (i := 1) rfl (by kernel_rfl) rfl (wants_none rfl) (yq_of (y_move (fe_t rfl))) ?_
              refine tb_float (i := 2) rfl (by kernel_rfl) rfl (wants_none rfl) (yq_of (y_index Try.underlying27 Try.sizeOf3 (fe_t rfl) (fe_t rfl) (rdl_out hw) (by simp; omega) (by decide) (by omega) (Nat.mul_one _))) ?_
              refine tb_float (i := 3) rfl (by kernel_rfl) rfl (wants_none rfl) (yq_of (y_ld Try.isAgg3 (fe_t rfl) (rdl_out hw) (getg (zs := ws) (by omega)))) ?_
              refine tb_float (i := 4) rfl (by kernel_rfl) rfl (wants_none rfl) (yq_of (y_move (fe_t rfl))) ?_
              refine tb_float (i := 5) rfl (by kernel_rfl) rfl (wants_none rfl) (yq_of (y_mul (fe_t rfl) (fe_t rfl) (by omega))) ?_
              refine tb_float (i := 6) rfl (by kernel_rfl) rfl (wants_none rfl) (yq_of (y_move (fe_t rfl))) ?_
              refine tb_float (i := 7) rfl (by kernel_rfl) rfl (wants_none rfl) (yq_of (y_ldb 2 Try.isAgg27 (fe_t rfl) rfl rfl)) ?_
              refine tb_float (i := 8) rfl (by kernel_rfl) rfl (wants_none rfl) (yq_of (y_move (fe_t rfl))) ?_
              refine tb_float (i := 9) rfl (by kernel_rfl) rfl (wants_none rfl) (yq_of (y_index Try.underlying27 Try.sizeOf3 (fe_t rfl) (fe_t rfl) (rdl_out ht) (by simp; omega) (by decide) (by omega) (Nat.mul_one _))) ?_
              refine tb_float (i := 10) rfl (by kernel_rfl) rfl (wants_none rfl) (yq_of (y_ld Try.isAgg3 (fe_t rfl) (rdl_out ht) (getg (zs := ts) (by omega)))) ?_
              refine tb_float (i := 11) rfl (by kernel_rfl) rfl (wants_none rfl) (yq_of (y_mul (fe_t rfl) (fe_t rfl) (by omega))) ?_
              refine tb_float (i := 12) rfl (by kernel_rfl) rfl (wants_none rfl) (yq_of (y_gtr (fe_t rfl) (fe_t rfl))) ?_
              refine tb_done (by kernel_rfl) ?_
              refine tx_then ?_
              refine tr_condp (fe_t rfl) (fun hq7 => ?_) (fun hq8 => ?_)
              · try (exfalso; omega)
                all_goals
                  refine tr_seq ?_
                  refine tr_region ?_
                  refine tl_step rfl (oj_val (y_move (fe_t rfl)) ?_)
                  refine tl_step rfl (oj_val (y_move (fe_t rfl)) ?_)
                  refine tl_step rfl (oj_val ((fun {u0 u1} hx hb => y_build (is := [0, 1]) (vs := [u0, u1]) (cs := [u0, u1]) rfl hx hb) (fel_cons (fe_t rfl) (fel_cons (fe_t rfl) fel_nil)) (by kernel_rfl)) ?_)
                  refine tl_step rfl (oj_storeW 3 Try.sizeOf76 (fe_t rfl) (fe_t rfl) rfl rfl rfl rfl rfl (?_))
                  refine tl_step rfl (oj_val (y_assign fe_c) ?_)
                  refine tl_nil ?_
                  refine tx_then ?_
                  refine tr_ret ?_
                  refine tx_then_ret ?_
                  refine tx_in_ret ?_
                  refine tx_then_ret ?_
                  refine tx_then_ret ?_
                  refine tx_in_ret ?_
                  refine tx_then_ret ?_
                  refine tx_ret (res2 Try.results40 (rok_b 3 Try.isAgg76 Try.sizeOf76 rfl rfl rfl) (rok_t rfl)) (fun w' hS => ?_)
                  have hgd := gd_stop hr hO (by omega) hj hSt h0 h1 (by rw [← hlf, ← hqd]; omega)
                  exact ⟨S, hgd, by rw [lev_pos (S := S) (by omega), ← hlf, ← hqd], hS.pick [] _ rfl (by decide)⟩
              · try (exfalso; omega)
                all_goals
                  refine tr_skip ?_
                  refine tx_then ?_
                  refine tr_seq ?_
                  refine tr_region ?_
                  refine tl_step rfl (oj_val (y_move (fe_t rfl)) ?_)
                  refine tl_step rfl (oj_val (y_ldb 1 Try.isAgg27 (fe_t rfl) rfl rfl) ?_)
                  refine tl_step rfl (oj_val (y_move (fe_t rfl)) ?_)
                  refine tl_step rfl (oj_val (y_index Try.underlying27 Try.sizeOf3 (fe_t rfl) (fe_t rfl) (rdl_out hw) (by simp; omega) (by decide) (by omega) (Nat.mul_one _)) ?_)
                  refine tl_step rfl (oj_val (y_ld Try.isAgg3 (fe_t rfl) (rdl_out hw) (getg (zs := ws) (by omega))) ?_)
                  refine tl_step rfl (oj_val (y_sub (fe_t rfl) (fe_t rfl) (by omega)) ?_)
                  refine tl_step rfl (oj_val (y_assign (fe_t rfl)) ?_)
                  refine tl_nil ?_
                  refine tx_then ?_
                  refine tr_region ?_
                  refine tl_step rfl (oj_val (y_move (fe_t rfl)) ?_)
                  refine tl_step rfl (oj_val (y_ldb 2 Try.isAgg27 (fe_t rfl) rfl rfl) ?_)
                  refine tl_step rfl (oj_val (y_move (fe_t rfl)) ?_)
                  refine tl_step rfl (oj_val (y_index Try.underlying27 Try.sizeOf3 (fe_t rfl) (fe_t rfl) (rdl_out ht) (by simp; omega) (by decide) (by omega) (Nat.mul_one _)) ?_)
                  refine tl_step rfl (oj_val (y_ld Try.isAgg3 (fe_t rfl) (rdl_out ht) (getg (zs := ts) (by omega))) ?_)
                  refine tl_step rfl (oj_val (y_sub (fe_t rfl) (fe_t rfl) (by omega)) ?_)
                  refine tl_step rfl (oj_val (y_assign (fe_t rfl)) ?_)
                  refine tl_nil ?_
                  refine tx_in ?_
                  refine tx_then ?_
                  refine tr_region ?_
                  refine tl_step rfl (oj_val (y_inc (fe_t rfl) fe_c (by omega)) ?_)
                  refine tl_step rfl (oj_val (y_move (fe_t rfl)) ?_)
                  refine tl_nil ?_
                  apply tx_back4 (i + 1) (up S j) (_) (_)
                  · exact (cov_cons (by first | rfl | exact v_int (by omega) | exact v_bool (by simp [*])) (cov_cons (by first | rfl | exact v_int (by omega) | exact v_bool (by simp [*])) (cov_cons (by first | rfl | exact v_int (by omega) | exact v_bool (by simp [*])) (cov_nil))))
                  · repeat (first | exact over_nil | refine over_put rfl ?_ | refine over_drop rfl ?_)
                  · exact fun w h => h.pick [0, 1, 2, 3] _ rfl (by decide)
                  · have hiu := inv_up hr hjn hjs h0 h1 (by rw [← hlf, ← hqd]; omega)
                    exact ⟨⟨by omega, up_take hO (by omega) hj hSt, by rw [L_up hjn hjs, hlf], by rw [D_up hjn hjs, hqd], hiu.1, hiu.2⟩, by omega⟩
          · try (exfalso; omega)
            all_goals
              refine tr_exit ?_
              refine tx_then_exit ?_
              refine tx_then_exit ?_
              refine tx_in_exit ?_
              refine tx_then ?_
              refine tr_seq ?_
              refine tr_region ?_
              refine tl_step rfl (oj_val (y_build (is := []) (vs := []) (cs := [.int .i64 0, .int .i64 0]) rfl fel_nil (by kernel_rfl)) ?_)
              refine tl_step rfl (oj_storeW 3 Try.sizeOf76 (fe_t rfl) (fe_t rfl) rfl rfl rfl rfl rfl (?_))
              refine tl_step rfl (oj_val (y_assign fe_c) ?_)
              refine tl_nil ?_
              refine tx_then ?_
              refine tr_ret ?_
              refine tx_ret (res2 Try.results40 (rok_b 3 Try.isAgg76 Try.sizeOf76 rfl rfl rfl) (rok_t rfl)) (fun w' hS => ?_)
              have hal := ord_all hO (show n ≤ i by omega) hSt
              exact ⟨S, ⟨h0, h1, fun k hk hf => by rw [hal k hk] at hf; cases hf⟩, by rw [lev_zero ((D_zero hr).2 hal)], hS.pick [] _ rfl (by decide)⟩

end Go.Proofs.Ytpknjfeiiaopgaa.Share
