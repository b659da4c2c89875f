/- Walks: a tree with all leaves full. -/
import Derived.Test.YtfcpmcdlgkfolaaDoorZhBnAl
import Derived.Test.YtfcpmcdlgkfolaaDoorZhThT
namespace Go.Proofs.YtfcpmcdlgkfolaaDoor.Hier
open Go.RowKit Go.Lib Go.Proofs.YtfcpmcdlgkfolaaDoor.E Go.Proofs.YtfcpmcdlgkfolaaDoor.Wfq
open Go.Proofs.YtfcpmcdlgkfolaaDoor.Scfq (hd hd_mem)
set_option maxRecDepth 100000 in
set_option maxHeartbeats 4000000 in
theorem hier_rng {w : World} (hw : Bn.Gw w) (A : Option Addr) (n c : Nat) (ns : List (Int × Int)) (B : Int) (hr : Rd w A (ns.flatMap c2)) (hn : ns.length = n) (hm : n ≤ 1048576) (many : Int) (hx : B < 1 ∨ 1500 < B ∨ many < 1 ∨ 60 < many) :
    Calls Tryd.prog 7 #[.slice A n c, (.int .i64 B), (.int .i64 many)] w fun e w' => e = .returned (.bool true) ∧ St w w' [] := by
  refine calls_tr Tryd.func7 Tryd.ntmps7 rfl rfl (St.refl _) ?_
  refine tr_seq ?_
  refine tr_region ?_
  refine tl_step rfl (oj_val (y_assign fe_c) ?_)
  refine tl_nil ?_
  refine tx_then ?_
  refine tr_seq ?_
  refine tr_seq ?_
  refine tr_region ?_
  refine tl_step rfl (oj_callv Tryd.call17 fe_f fel_nil (fun w' hS => Bn.aliveE (hw.st hS)) ?_)
  refine tl_step rfl (oj_val (y_not (fe_t rfl)) ?_)
  refine tl_nil ?_
  refine tx_then ?_
  refine tr_condf (fe_t rfl) ?_
  refine tr_skip ?_
  refine tx_then ?_
  refine tr_seq ?_
  refine tr_seq ?_
  refine tr_region ?_
  refine tl_step rfl (oj_val (y_move (fe_t rfl)) ?_)
  refine tl_step rfl (oj_val (y_lss (fe_t rfl) fe_c) ?_)
  refine tl_step rfl (oj_val (y_move (fe_t rfl)) ?_)
  refine tl_splitp (d := 29) rfl (fun hq1 => ?_) (fun hq2 => ?_)
  · try (exfalso; omega)
    all_goals
      refine tl_skip rfl rfl rfl rfl ?_
      refine tl_skip rfl rfl rfl rfl ?_
      refine tl_step rfl (oj_val (y_pickt (fe_t rfl) fe_c) ?_)
      refine tl_step rfl (oj_val (y_move (fe_t rfl)) ?_)
      refine tl_skip rfl rfl rfl rfl ?_
      refine tl_skip rfl rfl rfl rfl ?_
      refine tl_step rfl (oj_val (y_pickt (fe_t rfl) fe_c) ?_)
      refine tl_step rfl (oj_val (y_move (fe_t rfl)) ?_)
      refine tl_skip rfl rfl rfl rfl ?_
      refine tl_skip rfl rfl rfl rfl ?_
      refine tl_step rfl (oj_val (y_pickt (fe_t rfl) fe_c) ?_)
      refine tl_nil ?_
      refine tx_then ?_
      refine tr_condt (fe_t rfl) ?_
      refine tr_seq ?_
      refine tr_region ?_
      refine tl_step rfl (oj_val (y_assign fe_c) ?_)
      refine tl_nil ?_
      refine tx_then ?_
      refine tr_ret ?_
      refine tx_then_ret ?_
      refine tx_ret (res1 Tryd.results7 (rok_t rfl)) (fun w' hS => ?_)
      exact ⟨by first | rfl | simp, hS.pick [] _ rfl (by decide)⟩
  · try (exfalso; omega)
    all_goals
      refine tl_want rfl rfl rfl (oj_val (y_move (fe_t rfl)) ?_)
      refine tl_want rfl rfl rfl (oj_val (y_gtr (fe_t rfl) fe_c) ?_)
      refine tl_step rfl (oj_val (y_pickf (fe_t rfl) (fe_t rfl)) ?_)
      refine tl_step rfl (oj_val (y_move (fe_t rfl)) ?_)
      refine tl_splitp (d := 33) rfl (fun hq3 => ?_) (fun hq4 => ?_)
      · try (exfalso; omega)
        all_goals
          refine tl_skip rfl rfl rfl rfl ?_
          refine tl_skip rfl rfl rfl rfl ?_
          refine tl_step rfl (oj_val (y_pickt (fe_t rfl) fe_c) ?_)
          refine tl_step rfl (oj_val (y_move (fe_t rfl)) ?_)
          refine tl_skip rfl rfl rfl rfl ?_
          refine tl_skip rfl rfl rfl rfl ?_
          refine tl_step rfl (oj_val (y_pickt (fe_t rfl) fe_c) ?_)
          refine tl_nil ?_
          refine tx_then ?_
          refine tr_condt (fe_t rfl) ?_
          refine tr_seq ?_
          refine tr_region ?_
          refine tl_step rfl (oj_val (y_assign fe_c) ?_)
          refine tl_nil ?_
          refine tx_then ?_
          refine tr_ret ?_
          refine tx_then_ret ?_
          refine tx_ret (res1 Tryd.results7 (rok_t rfl)) (fun w' hS => ?_)
          exact ⟨by first | rfl | simp, hS.pick [] _ rfl (by decide)⟩
      · try (exfalso; omega)
        all_goals
          refine tl_want rfl rfl rfl (oj_val (y_move (fe_t rfl)) ?_)
          refine tl_want rfl rfl rfl (oj_val (y_lss (fe_t rfl) fe_c) ?_)
          refine tl_step rfl (oj_val (y_pickf (fe_t rfl) (fe_t rfl)) ?_)
          refine tl_step rfl (oj_val (y_move (fe_t rfl)) ?_)
          refine tl_splitp (d := 37) rfl (fun hq5 => ?_) (fun hq6 => ?_)
          · try (exfalso; omega)
            all_goals
              refine tl_skip rfl rfl rfl rfl ?_
              refine tl_skip rfl rfl rfl rfl ?_
              refine tl_step rfl (oj_val (y_pickt (fe_t rfl) fe_c) ?_)
              refine tl_nil ?_
              refine tx_then ?_
              refine tr_condt (fe_t rfl) ?_
              refine tr_seq ?_
              refine tr_region ?_
              refine tl_step rfl (oj_val (y_assign fe_c) ?_)
              refine tl_nil ?_
              refine tx_then ?_
              refine tr_ret ?_
              refine tx_then_ret ?_
              refine tx_ret (res1 Tryd.results7 (rok_t rfl)) (fun w' hS => ?_)
              exact ⟨by first | rfl | simp, hS.pick [] _ rfl (by decide)⟩
          · try (exfalso; omega)
            all_goals
              refine tl_want rfl rfl rfl (oj_val (y_move (fe_t rfl)) ?_)
              refine tl_want rfl rfl rfl (oj_val (y_gtr (fe_t rfl) fe_c) ?_)
              refine tl_step rfl (oj_val (y_pickf (fe_t rfl) (fe_t rfl)) ?_)
              refine tl_nil ?_
              refine tx_then ?_
              refine tr_condp (fe_t rfl) (fun hq7 => ?_) (fun hq8 => ?_)
              · try (exfalso; omega)
                all_goals
                  refine tr_seq ?_
                  refine tr_region ?_
                  refine tl_step rfl (oj_val (y_assign fe_c) ?_)
                  refine tl_nil ?_
                  refine tx_then ?_
                  refine tr_ret ?_
                  refine tx_then_ret ?_
                  refine tx_ret (res1 Tryd.results7 (rok_t rfl)) (fun w' hS => ?_)
                  exact ⟨by first | rfl | simp, hS.pick [] _ rfl (by decide)⟩
              · exfalso; omega

set_option maxRecDepth 100000 in
set_option maxHeartbeats 4000000 in
theorem hier_bad {w : World} (hw : Bn.Gw w) (A : Option Addr) (n c : Nat) (ns : List (Int × Int)) (B : Int) (hr : Rd w A (ns.flatMap c2)) (hn : ns.length = n) (hm : n ≤ 1048576) (many : Nat) (hB : 1 ≤ B ∧ B ≤ 1500) (hmany1 : 1 ≤ many) (hmany : many ≤ 60) (hbad : ¬ wrongT ns = 0) :
    Calls Tryd.prog 7 #[.slice A n c, (.int .i64 B), (.int .i64 ((many : Int)))] w fun e w' => e = .returned (.bool true) ∧ St w w' [] := by
  refine calls_tr Tryd.func7 Tryd.ntmps7 rfl rfl (St.refl _) ?_
  refine tr_seq ?_
  refine tr_region ?_
  refine tl_step rfl (oj_val (y_assign fe_c) ?_)
  refine tl_nil ?_
  refine tx_then ?_
  refine tr_seq ?_
  refine tr_seq ?_
  refine tr_region ?_
  refine tl_step rfl (oj_callv Tryd.call17 fe_f fel_nil (fun w' hS => Bn.aliveE (hw.st hS)) ?_)
  refine tl_step rfl (oj_val (y_not (fe_t rfl)) ?_)
  refine tl_nil ?_
  refine tx_then ?_
  refine tr_condf (fe_t rfl) ?_
  refine tr_skip ?_
  refine tx_then ?_
  refine tr_seq ?_
  refine tr_seq ?_
  refine tr_region ?_
  refine tl_step rfl (oj_val (y_move (fe_t rfl)) ?_)
  refine tl_step rfl (oj_val (y_lss (fe_t rfl) fe_c) ?_)
  refine tl_step rfl (oj_val (y_move (fe_t rfl)) ?_)
  refine tl_splitp (d := 29) rfl (fun hq1 => ?_) (fun hq2 => ?_)
  · try (exfalso; omega)
    all_goals
      refine tl_skip rfl rfl rfl rfl ?_
      refine tl_skip rfl rfl rfl rfl ?_
      refine tl_step rfl (oj_val (y_pickt (fe_t rfl) fe_c) ?_)
      refine tl_step rfl (oj_val (y_move (fe_t rfl)) ?_)
      refine tl_skip rfl rfl rfl rfl ?_
      refine tl_skip rfl rfl rfl rfl ?_
      refine tl_step rfl (oj_val (y_pickt (fe_t rfl) fe_c) ?_)
      refine tl_step rfl (oj_val (y_move (fe_t rfl)) ?_)
      refine tl_skip rfl rfl rfl rfl ?_
      refine tl_skip rfl rfl rfl rfl ?_
      refine tl_step rfl (oj_val (y_pickt (fe_t rfl) fe_c) ?_)
      refine tl_nil ?_
      refine tx_then ?_
      exfalso; omega
  · try (exfalso; omega)
    all_goals
      refine tl_want rfl rfl rfl (oj_val (y_move (fe_t rfl)) ?_)
      refine tl_want rfl rfl rfl (oj_val (y_gtr (fe_t rfl) fe_c) ?_)
      refine tl_step rfl (oj_val (y_pickf (fe_t rfl) (fe_t rfl)) ?_)
      refine tl_step rfl (oj_val (y_move (fe_t rfl)) ?_)
      refine tl_splitp (d := 33) rfl (fun hq3 => ?_) (fun hq4 => ?_)
      · try (exfalso; omega)
        all_goals
          refine tl_skip rfl rfl rfl rfl ?_
          refine tl_skip rfl rfl rfl rfl ?_
          refine tl_step rfl (oj_val (y_pickt (fe_t rfl) fe_c) ?_)
          refine tl_step rfl (oj_val (y_move (fe_t rfl)) ?_)
          refine tl_skip rfl rfl rfl rfl ?_
          refine tl_skip rfl rfl rfl rfl ?_
          refine tl_step rfl (oj_val (y_pickt (fe_t rfl) fe_c) ?_)
          refine tl_nil ?_
          refine tx_then ?_
          exfalso; omega
      · try (exfalso; omega)
        all_goals
          refine tl_want rfl rfl rfl (oj_val (y_move (fe_t rfl)) ?_)
          refine tl_want rfl rfl rfl (oj_val (y_lss (fe_t rfl) fe_c) ?_)
          refine tl_step rfl (oj_val (y_pickf (fe_t rfl) (fe_t rfl)) ?_)
          refine tl_step rfl (oj_val (y_move (fe_t rfl)) ?_)
          refine tl_splitp (d := 37) rfl (fun hq5 => ?_) (fun hq6 => ?_)
          · try (exfalso; omega)
            all_goals
              refine tl_skip rfl rfl rfl rfl ?_
              refine tl_skip rfl rfl rfl rfl ?_
              refine tl_step rfl (oj_val (y_pickt (fe_t rfl) fe_c) ?_)
              refine tl_nil ?_
              refine tx_then ?_
              exfalso; omega
          · try (exfalso; omega)
            all_goals
              refine tl_want rfl rfl rfl (oj_val (y_move (fe_t rfl)) ?_)
              refine tl_want rfl rfl rfl (oj_val (y_gtr (fe_t rfl) fe_c) ?_)
              refine tl_step rfl (oj_val (y_pickf (fe_t rfl) (fe_t rfl)) ?_)
              refine tl_nil ?_
              refine tx_then ?_
              refine tr_condp (fe_t rfl) (fun hq7 => ?_) (fun hq8 => ?_)
              · exfalso; omega
              · try (exfalso; omega)
                all_goals
                  refine tr_skip ?_
                  refine tx_then ?_
                  refine tr_seq ?_
                  refine tr_region ?_
                  refine tl_step rfl (oj_val (y_assign fe_c) ?_)
                  refine tl_nil ?_
                  refine tx_then ?_
                  refine tr_seq ?_
                  refine tr_region ?_
                  refine tl_step rfl (oj_makeMap (fun b_mp => ?_))
                  refine tl_step rfl (oj_val (y_assign (fe_t rfl)) ?_)
                  refine tl_nil ?_
                  refine tx_then ?_
                  refine tr_seq ?_
                  refine tr_seq ?_
                  refine tr_region ?_
                  refine tl_step rfl (oj_val (y_move (fe_t rfl)) ?_)
                  refine tl_step rfl (oj_val (y_len Tryd.underlying67 (fe_t rfl)) ?_)
                  refine tl_step rfl (oj_val (y_move fe_c) ?_)
                  refine tl_nil ?_
                  refine tx_then ?_
                  refine tr_block ?_
                  refine tr_add (r := vec 75 3 (.slice none 0 0) 0 []) vec_nil rfl ?_
                  refine tr_loop3 [7, 9, 44, 45, 46, 47, 48, 49, 50, 51, 52, 53, 54, 55, 56, 57, 58, 59, 60, 61, 62] (fun (k : Nat) (z : Vs) (mm : List (Int × Value)) => [(44, .int .i64 (k : Int)), (7, .slice z.A z.n z.c)]) 0 (fun (k : Nat) (z : Vs) (mm : List (Int × Value)) => [(0, vec 75 3 (.slice z.A z.n z.c) z.n z.xs), (1, mpR b_mp mm [])]) (fun (k : Nat) (z : Vs) (mm : List (Int × Value)) => k ≤ n ∧ z.n = (osK (trOf ns) B many k).length ∧ z.xs = (osK (trOf ns) B many k).flatMap c3 ∧ Tab (leavesTo (trOf ns) k) (fun _ => 0) mm) (fun (k : Nat) (z : Vs) (mm : List (Int × Value)) => n - k) (0) (⟨none, 0, 0, []⟩ : Vs) ([]) (cov_cons (by first | rfl | exact v_int (by omega) | exact v_bool (by simp [*])) (cov_cons (by first | rfl | exact v_int (by omega) | exact v_bool (by simp [*])) (cov_nil))) (fun w h => h) ?_ ?_
                  · try dsimp only
                    exact ⟨by omega, rfl, rfl, tab_zero _⟩
                  intro k z mm hp
                  obtain ⟨hk, hzn, hzx, htab⟩ := hp
                  have hob := osK_bd (t := trOf ns) (B := B) (many := many) (k := k) (by omega) hmany
                  refine tr_seq ?_
                  refine tr_region ?_
                  refine tl_step rfl (oj_val (y_lss (fe_t rfl) (fe_t rfl)) ?_)
                  refine tl_nil ?_
                  refine tx_then ?_
                  refine tr_seq ?_
                  refine tr_condp (fe_t rfl) (fun hq9 => ?_) (fun hq10 => ?_)
                  · try (exfalso; omega)
                    all_goals
                      refine tr_skip ?_
                      refine tx_then ?_
                      refine tr_seq ?_
                      refine tr_block ?_
                      refine tr_seq ?_
                      refine tr_region ?_
                      refine tl_step rfl (oj_val (y_move (fe_t rfl)) ?_)
                      refine tl_step rfl (oj_alloc Tryd.zeroValue3 (fun kb => ?_))
                      refine tl_step rfl (oj_store1 0 Tryd.sizeOf3 (fe_t rfl) (fe_t rfl) rfl rfl rfl rfl (?_))
                      refine tl_nil ?_
                      refine tx_then ?_
                      refine tr_seq ?_
                      refine tr_seq ?_
                      refine tr_region ?_
                      refine tl_step rfl (oj_val (y_move (fe_t rfl)) ?_)
                      refine tl_step rfl (oj_val (y_makeFunc (fel_cons (fe_t rfl) fel_nil)) ?_)
                      refine tl_step rfl (oj_call2 Tryd.call26 fe_f (fel_cons (fe_t rfl) (fel_cons (fe_t rfl) fel_nil)) (fun w' hS => contT A n c ns (hS.pick [0, 1, 2] [_, _, _] rfl (by decide)) hr hn (by omega)) (fun q hQ => ?_))
                      refine tl_nil ?_
                      refine tx_then ?_
                      refine tr_cond (fe_t rfl) (fun hq11 => ?_) (fun hq12 => ?_)
                      · try (exfalso; omega)
                        all_goals
                          have hc : ¬ (trOf ns).kids k = [] := hQ.1 (by have h2 := hq11; simpa using h2)
                          refine tr_exit ?_
                          refine tx_then_exit ?_
                          refine tx_in_exit ?_
                          refine tx_then ?_
                          refine tr_region ?_
                          refine tl_step rfl (oj_val (y_inc (fe_t rfl) fe_c (by omega)) ?_)
                          refine tl_step rfl (oj_val (y_move (fe_t rfl)) ?_)
                          refine tl_nil ?_
                          apply tx_back3 (k + 1) (z) (mm)
                          · exact (cov_cons (by first | rfl | exact v_int (by omega) | exact v_bool (by simp [*])) (cov_cons (by first | rfl | exact v_int (by omega) | exact v_bool (by simp [*])) (cov_nil)))
                          · repeat (first | exact over_nil | refine over_put rfl ?_ | refine over_drop rfl ?_)
                          · exact fun w h => h.pick [1, 2] _ rfl (by decide)
                          · exact ⟨⟨by omega, by rw [osK_no hc]; exact hzn, by rw [osK_no hc]; exact hzx, tab_not htab hc⟩, by omega⟩
                      · try (exfalso; omega)
                        all_goals
                          have hc : (trOf ns).kids k = [] := Classical.not_not.1 (fun h0 => by have h1 := hQ.2 h0; have h2 := hq12; simp [h1] at h2)
                          refine tr_skip ?_
                          refine tx_then ?_
                          refine tr_seq ?_
                          refine tr_region ?_
                          refine tl_step rfl (oj_val (y_move (fe_t rfl)) ?_)
                          refine tl_step rfl (oj_val (y_ldb 0 Tryd.isAgg3 (fe_t rfl) rfl rfl) ?_)
                          refine tl_step rfl (oj_mapPut 2 Tryd.underlying69 Tryd.underlying3 (fe_t rfl) (fe_t rfl) fe_c rfl (.inl rfl) (?_))
                          refine tl_nil ?_
                          refine tx_then ?_
                          refine tr_seq ?_
                          refine tr_region ?_
                          refine tl_step rfl (oj_val (y_move (fe_t rfl)) ?_)
                          refine tl_step rfl (oj_val (y_move fe_c) ?_)
                          refine tl_nil ?_
                          refine tx_then ?_
                          refine tr_block ?_
                          refine tr_loop2 [7, 53, 54, 55, 56, 57, 58, 59, 60, 61] (fun (b : Nat) (z2 : Vs) => [(53, .int .i64 (b : Int)), (7, .slice z2.A z2.n z2.c)]) 0 (fun (b : Nat) (z2 : Vs) => [(1, vec 75 3 (.slice z2.A z2.n z2.c) z2.n z2.xs)]) (fun (b : Nat) (z2 : Vs) => b ≤ many ∧ z2.n = (osK (trOf ns) B many k).length + b ∧ z2.xs = (osK (trOf ns) B many k ++ List.replicate b (1, (k : Int), B)).flatMap c3) (fun (b : Nat) (z2 : Vs) => many - b) (0) (z) (cov_cons (by first | rfl | exact v_int (by omega) | exact v_bool (by simp [*])) (cov_cons (by first | rfl | exact v_int (by omega) | exact v_bool (by simp [*])) (cov_nil))) (fun w h => h) ?_ ?_
                          · try dsimp only
                            exact ⟨by omega, hzn, by rw [hzx]; simp⟩
                          intro b z2 hp
                          obtain ⟨hb, hzn2, hzx2⟩ := hp
                          refine tr_seq ?_
                          refine tr_region ?_
                          refine tl_step rfl (oj_val (y_lss (fe_t rfl) (fe_t rfl)) ?_)
                          refine tl_nil ?_
                          refine tx_then ?_
                          refine tr_seq ?_
                          refine tr_condp (fe_t rfl) (fun hq13 => ?_) (fun hq14 => ?_)
                          · try (exfalso; omega)
                            all_goals
                              refine tr_skip ?_
                              refine tx_then ?_
                              refine tr_seq ?_
                              refine tr_block ?_
                              refine tr_region ?_
                              refine tl_step rfl (oj_val (y_move (fe_t rfl)) ?_)
                              refine tl_step rfl (oj_val (y_ldb 0 Tryd.isAgg3 (fe_t rfl) rfl rfl) ?_)
                              refine tl_step rfl (oj_val (y_move (fe_t rfl)) ?_)
                              refine tl_step rfl (oj_val ((fun {u0 u1 u2} hx hb => y_build (is := [0, 1, 2]) (vs := [u0, u1, u2]) (cs := [u0, u1, u2]) rfl hx hb) (fel_cons (fe_c (v := .int .i64 1)) (fel_cons (fe_t rfl) (fel_cons (fe_t rfl) fel_nil))) (by kernel_rfl)) ?_)
                              refine tl_step rfl (oj_slice1 Tryd.underlying68 Tryd.sizeOf75 Tryd.zeroValue75 (fe_t rfl) (by decide) rfl (fun b1 => ?_))
                              refine tl_step rfl (oj_append (i := 2) (s := 3) (z := (.agg #[.int .i64 0, .int .i64 0, .int .i64 0])) (bytes := 24) Tryd.underlying68 (by kernel_rfl) (fe_t rfl) (fe_t rfl) rfl (rdl_blk 0 rfl) rfl (by decide) (by first | exact oneI | exact oneF (fun _ => rfl) | exact fun u hu => List.all_eq_true.1 (show List.all _ (fun x => x.oneCell') = true from rfl) u hu | (intro u hu; revert u hu; simp [Value.oneCell'])) (by decide) ⟨by omega, by decide⟩ (fun Aa1 ca1 hca1 => ?_))
                              refine tl_step rfl (oj_val (y_assign (fe_t rfl)) ?_)
                              refine tl_nil ?_
                              refine tx_in ?_
                              refine tx_then ?_
                              refine tr_region ?_
                              refine tl_step rfl (oj_val (y_inc (fe_t rfl) fe_c (by omega)) ?_)
                              refine tl_step rfl (oj_val (y_move (fe_t rfl)) ?_)
                              refine tl_nil ?_
                              apply tx_back2 (b + 1) ((⟨_, _, _, _⟩ : Vs))
                              · exact (cov_cons (by first | rfl | exact v_int (by omega) | exact v_bool (by simp [*])) (cov_cons (by first | rfl | exact v_int (by omega) | exact v_bool (by simp [*])) (cov_nil)))
                              · repeat (first | exact over_nil | refine over_put rfl ?_ | refine over_drop rfl ?_)
                              · exact fun w h => h.pick [1, 2, 3] _ rfl (by decide)
                              · refine ⟨⟨by omega, by dsimp only; omega, ?_⟩, by omega⟩
                                dsimp only
                                rw [hzx2, List.replicate_succ', ← List.append_assoc, List.flatMap_append (xs := _ ++ _)]
                                rfl
                          · try (exfalso; omega)
                            all_goals
                              refine tr_exit ?_
                              refine tx_then_exit ?_
                              refine tx_then_exit ?_
                              refine tx_in_exit ?_
                              refine tx_in ?_
                              refine tx_then ?_
                              refine tr_region ?_
                              refine tl_step rfl (oj_val (y_inc (fe_t rfl) fe_c (by omega)) ?_)
                              refine tl_step rfl (oj_val (y_move (fe_t rfl)) ?_)
                              refine tl_nil ?_
                              apply tx_back3 (k + 1) (z2) (_)
                              · exact (cov_cons (by first | rfl | exact v_int (by omega) | exact v_bool (by simp [*])) (cov_cons (by first | rfl | exact v_int (by omega) | exact v_bool (by simp [*])) (cov_nil)))
                              · repeat (first | exact over_nil | refine over_put rfl ?_ | refine over_drop rfl ?_)
                              · exact fun w h => h.pick [1, 2] _ rfl (by decide)
                              · obtain rfl : many = b := by omega
                                exact ⟨⟨by omega, by rw [osK_yes hc, List.length_append, List.length_replicate]; omega, by rw [osK_yes hc]; exact hzx2, tab_leaf htab hc rfl⟩, by omega⟩
                  · try (exfalso; omega)
                    all_goals
                      refine tr_exit ?_
                      refine tx_then_exit ?_
                      refine tx_then_exit ?_
                      refine tx_in_exit ?_
                      refine tx_then ?_
                      refine tr_seq ?_
                      refine tr_seq ?_
                      obtain rfl : n = k := by omega
                      refine tr_region ?_
                      refine tl_step rfl (oj_val (y_move (fe_t rfl)) ?_)
                      refine tl_step rfl (oj_val (y_len Tryd.underlying68 (fe_t rfl)) ?_)
                      refine tl_step rfl (oj_val (y_move (fe_t rfl)) ?_)
                      refine tl_step rfl (oj_val (y_add (fe_t rfl) (fe_t rfl) (by omega)) ?_)
                      refine tl_step rfl (oj_val (y_gtr (fe_t rfl) fe_c) ?_)
                      refine tl_nil ?_
                      refine tx_then ?_
                      refine tr_condp (fe_t rfl) (fun hq15 => ?_) (fun hq16 => ?_)
                      · try (exfalso; omega)
                        all_goals
                          refine tr_seq ?_
                          refine tr_region ?_
                          refine tl_step rfl (oj_val (y_assign fe_c) ?_)
                          refine tl_nil ?_
                          refine tx_then ?_
                          refine tr_ret ?_
                          refine tx_then_ret ?_
                          refine tx_ret (res1 Tryd.results7 (rok_t rfl)) (fun w' hS => ?_)
                          exact ⟨by first | rfl | simp, hS.pick [] _ rfl (by decide)⟩
                      · try (exfalso; omega)
                        all_goals
                          refine tr_skip ?_
                          refine tx_then ?_
                          refine tr_seq ?_
                          refine tr_seq ?_
                          refine tr_region ?_
                          refine tl_step rfl (oj_val (y_move (fe_t rfl)) ?_)
                          refine tl_step rfl (oj_val (y_move fe_c) ?_)
                          refine tl_nil ?_
                          refine tx_then ?_
                          refine tr_block ?_
                          refine tr_loop2 [7, 69, 70, 71, 72, 73, 74, 75] (fun (b : Nat) (z3 : Vs) => [(69, .int .i64 (b : Int)), (7, .slice z3.A z3.n z3.c)]) 0 (fun (b : Nat) (z3 : Vs) => [(0, vec 75 3 (.slice z3.A z3.n z3.c) z3.n z3.xs)]) (fun (b : Nat) (z3 : Vs) => b ≤ many ∧ z3.n = (osK (trOf ns) B many n).length + b ∧ z3.xs = (osK (trOf ns) B many n ++ List.replicate b (2, 0, 0)).flatMap c3) (fun (b : Nat) (z3 : Vs) => many - b) (0) (z) (cov_cons (by first | rfl | exact v_int (by omega) | exact v_bool (by simp [*])) (cov_cons (by first | rfl | exact v_int (by omega) | exact v_bool (by simp [*])) (cov_nil))) (fun w h => h) ?_ ?_
                          · try dsimp only
                            exact ⟨by omega, hzn, by rw [hzx]; simp⟩
                          intro b z3 hp
                          obtain ⟨hb, hzn, hzx⟩ := hp
                          refine tr_seq ?_
                          refine tr_region ?_
                          refine tl_step rfl (oj_val (y_lss (fe_t rfl) (fe_t rfl)) ?_)
                          refine tl_nil ?_
                          refine tx_then ?_
                          refine tr_seq ?_
                          refine tr_condp (fe_t rfl) (fun hq17 => ?_) (fun hq18 => ?_)
                          · try (exfalso; omega)
                            all_goals
                              refine tr_skip ?_
                              refine tx_then ?_
                              refine tr_seq ?_
                              refine tr_block ?_
                              refine tr_region ?_
                              refine tl_step rfl (oj_val (y_move (fe_t rfl)) ?_)
                              refine tl_step rfl (oj_val ((fun {u0} hx hb => y_build (is := [0]) (vs := [u0]) (cs := [u0, .int .i64 0, .int .i64 0]) rfl hx hb) (fel_cons (fe_c (v := .int .i64 2)) fel_nil) (by kernel_rfl)) ?_)
                              refine tl_step rfl (oj_slice1 Tryd.underlying68 Tryd.sizeOf75 Tryd.zeroValue75 (fe_t rfl) (by decide) rfl (fun b2 => ?_))
                              refine tl_step rfl (oj_append (i := 1) (s := 3) (z := (.agg #[.int .i64 0, .int .i64 0, .int .i64 0])) (bytes := 24) Tryd.underlying68 (by kernel_rfl) (fe_t rfl) (fe_t rfl) rfl (rdl_blk 0 rfl) rfl (by decide) (by first | exact oneI | exact oneF (fun _ => rfl) | exact fun u hu => List.all_eq_true.1 (show List.all _ (fun x => x.oneCell') = true from rfl) u hu | (intro u hu; revert u hu; simp [Value.oneCell'])) (by decide) ⟨by omega, by decide⟩ (fun Aa2 ca2 hca2 => ?_))
                              refine tl_step rfl (oj_val (y_assign (fe_t rfl)) ?_)
                              refine tl_nil ?_
                              refine tx_in ?_
                              refine tx_then ?_
                              refine tr_region ?_
                              refine tl_step rfl (oj_val (y_inc (fe_t rfl) fe_c (by omega)) ?_)
                              refine tl_step rfl (oj_val (y_move (fe_t rfl)) ?_)
                              refine tl_nil ?_
                              apply tx_back2 (b + 1) ((⟨_, _, _, _⟩ : Vs))
                              · exact (cov_cons (by first | rfl | exact v_int (by omega) | exact v_bool (by simp [*])) (cov_cons (by first | rfl | exact v_int (by omega) | exact v_bool (by simp [*])) (cov_nil)))
                              · repeat (first | exact over_nil | refine over_put rfl ?_ | refine over_drop rfl ?_)
                              · exact fun w h => h.pick [1, 2] _ rfl (by decide)
                              · refine ⟨⟨by omega, by dsimp only; omega, ?_⟩, by omega⟩
                                dsimp only
                                rw [hzx, List.replicate_succ', ← List.append_assoc, List.flatMap_append (xs := _ ++ _)]
                                rfl
                          · try (exfalso; omega)
                            all_goals
                              refine tr_exit ?_
                              refine tx_then_exit ?_
                              refine tx_then_exit ?_
                              refine tx_in_exit ?_
                              refine tx_then ?_
                              refine tr_seq ?_
                              obtain rfl : many = b := by omega
                              refine tr_region ?_
                              refine tl_step rfl (oj_val (y_move (fe_t rfl)) ?_)
                              refine tl_step rfl (oj_val (y_move (fe_t rfl)) ?_)
                              refine tl_step rfl (oj_callv Tryd.call28 fe_f (fel_cons (fe_t rfl) (fel_cons (fe_t rfl) fel_nil)) (fun w' hS => playF A n c ns w' (Rd.below hr hS.below) hn hm (osK (trOf ns) B many n ++ List.replicate many (2, 0, 0)) (rd_v hS 0 rfl) hzx (by rw [List.length_append, List.length_replicate]; omega) hbad (by rw [List.length_append, List.length_replicate]; omega)) ?_)
                              refine tl_step rfl (oj_val (y_move (fe_t rfl)) ?_)
                              refine tl_step rfl (oj_val (y_extract (fe_t rfl) rfl) ?_)
                              refine tl_step rfl (oj_val (y_extract (fe_t rfl) rfl) ?_)
                              refine tl_step rfl (oj_val (y_extract (fe_t rfl) rfl) ?_)
                              refine tl_step rfl (oj_val (y_extract (fe_t rfl) rfl) ?_)
                              refine tl_step rfl (oj_val (y_assign (fe_t rfl)) ?_)
                              refine tl_step rfl (oj_val (y_assign (fe_t rfl)) ?_)
                              refine tl_step rfl (oj_val (y_assign (fe_t rfl)) ?_)
                              refine tl_step rfl (oj_val (y_assign (fe_t rfl)) ?_)
                              refine tl_nil ?_
                              refine tx_then ?_
                              refine tr_seq ?_
                              refine tr_seq ?_
                              refine tr_region ?_
                              refine tl_step rfl (oj_val (y_move (fe_t rfl)) ?_)
                              refine tl_step rfl (oj_val (y_neq (fe_t rfl) fe_c) ?_)
                              refine tl_nil ?_
                              refine tx_then ?_
                              refine tr_condp (fe_t rfl) (fun hq19 => ?_) (fun hq20 => ?_)
                              · try (exfalso; omega)
                                all_goals
                                  refine tr_seq ?_
                                  refine tr_region ?_
                                  refine tl_step rfl (oj_val (y_move (fe_t rfl)) ?_)
                                  refine tl_step rfl (oj_val (y_len Tryd.underlying77 (fe_t rfl)) ?_)
                                  refine tl_step rfl (oj_val (y_eq (fe_t rfl) fe_c) ?_)
                                  refine tl_step rfl (oj_val (y_assign (fe_t rfl)) ?_)
                                  refine tl_nil ?_
                                  refine tx_then ?_
                                  refine tr_ret ?_
                                  refine tx_then_ret ?_
                                  refine tx_ret (res1 Tryd.results7 (rok_t rfl)) (fun w' hS => ?_)
                                  exact ⟨by first | rfl | simp, hS.pick [] _ rfl (by decide)⟩
                              · exact absurd (by simpa using hq20) hbad

set_option maxRecDepth 100000 in
set_option maxHeartbeats 4000000 in
theorem hier_ok {w : World} (hw : Bn.Gw w) (A : Option Addr) (n c : Nat) (ns : List (Int × Int)) (B : Int) (hr : Rd w A (ns.flatMap c2)) (hn : ns.length = n) (hm : n ≤ 1048576) (many : Nat) (hB : 1 ≤ B ∧ B ≤ 1500) (hmany1 : 1 ≤ many) (hmany : many ≤ 60) (hwt : wrongT ns = 0) :
    Calls Tryd.prog 7 #[.slice A n c, (.int .i64 B), (.int .i64 ((many : Int)))] w fun e w' => e = .returned (.bool true) ∧ St w w' [] := by
  refine calls_tr Tryd.func7 Tryd.ntmps7 rfl rfl (St.refl _) ?_
  refine tr_seq ?_
  refine tr_region ?_
  refine tl_step rfl (oj_val (y_assign fe_c) ?_)
  refine tl_nil ?_
  refine tx_then ?_
  refine tr_seq ?_
  refine tr_seq ?_
  refine tr_region ?_
  refine tl_step rfl (oj_callv Tryd.call17 fe_f fel_nil (fun w' hS => Bn.aliveE (hw.st hS)) ?_)
  refine tl_step rfl (oj_val (y_not (fe_t rfl)) ?_)
  refine tl_nil ?_
  refine tx_then ?_
  refine tr_condf (fe_t rfl) ?_
  refine tr_skip ?_
  refine tx_then ?_
  refine tr_seq ?_
  refine tr_seq ?_
  refine tr_region ?_
  refine tl_step rfl (oj_val (y_move (fe_t rfl)) ?_)
  refine tl_step rfl (oj_val (y_lss (fe_t rfl) fe_c) ?_)
  refine tl_step rfl (oj_val (y_move (fe_t rfl)) ?_)
  refine tl_splitp (d := 29) rfl (fun hq1 => ?_) (fun hq2 => ?_)
  · try (exfalso; omega)
    all_goals
      refine tl_skip rfl rfl rfl rfl ?_
      refine tl_skip rfl rfl rfl rfl ?_
      refine tl_step rfl (oj_val (y_pickt (fe_t rfl) fe_c) ?_)
      refine tl_step rfl (oj_val (y_move (fe_t rfl)) ?_)
      refine tl_skip rfl rfl rfl rfl ?_
      refine tl_skip rfl rfl rfl rfl ?_
      refine tl_step rfl (oj_val (y_pickt (fe_t rfl) fe_c) ?_)
      refine tl_step rfl (oj_val (y_move (fe_t rfl)) ?_)
      refine tl_skip rfl rfl rfl rfl ?_
      refine tl_skip rfl rfl rfl rfl ?_
      refine tl_step rfl (oj_val (y_pickt (fe_t rfl) fe_c) ?_)
      refine tl_nil ?_
      refine tx_then ?_
      exfalso; omega
  · try (exfalso; omega)
    all_goals
      refine tl_want rfl rfl rfl (oj_val (y_move (fe_t rfl)) ?_)
      refine tl_want rfl rfl rfl (oj_val (y_gtr (fe_t rfl) fe_c) ?_)
      refine tl_step rfl (oj_val (y_pickf (fe_t rfl) (fe_t rfl)) ?_)
      refine tl_step rfl (oj_val (y_move (fe_t rfl)) ?_)
      refine tl_splitp (d := 33) rfl (fun hq3 => ?_) (fun hq4 => ?_)
      · try (exfalso; omega)
        all_goals
          refine tl_skip rfl rfl rfl rfl ?_
          refine tl_skip rfl rfl rfl rfl ?_
          refine tl_step rfl (oj_val (y_pickt (fe_t rfl) fe_c) ?_)
          refine tl_step rfl (oj_val (y_move (fe_t rfl)) ?_)
          refine tl_skip rfl rfl rfl rfl ?_
          refine tl_skip rfl rfl rfl rfl ?_
          refine tl_step rfl (oj_val (y_pickt (fe_t rfl) fe_c) ?_)
          refine tl_nil ?_
          refine tx_then ?_
          exfalso; omega
      · try (exfalso; omega)
        all_goals
          refine tl_want rfl rfl rfl (oj_val (y_move (fe_t rfl)) ?_)
          refine tl_want rfl rfl rfl (oj_val (y_lss (fe_t rfl) fe_c) ?_)
          refine tl_step rfl (oj_val (y_pickf (fe_t rfl) (fe_t rfl)) ?_)
          refine tl_step rfl (oj_val (y_move (fe_t rfl)) ?_)
          refine tl_splitp (d := 37) rfl (fun hq5 => ?_) (fun hq6 => ?_)
          · try (exfalso; omega)
            all_goals
              refine tl_skip rfl rfl rfl rfl ?_
              refine tl_skip rfl rfl rfl rfl ?_
              refine tl_step rfl (oj_val (y_pickt (fe_t rfl) fe_c) ?_)
              refine tl_nil ?_
              refine tx_then ?_
              exfalso; omega
          · try (exfalso; omega)
            all_goals
              refine tl_want rfl rfl rfl (oj_val (y_move (fe_t rfl)) ?_)
              refine tl_want rfl rfl rfl (oj_val (y_gtr (fe_t rfl) fe_c) ?_)
              refine tl_step rfl (oj_val (y_pickf (fe_t rfl) (fe_t rfl)) ?_)
              refine tl_nil ?_
              refine tx_then ?_
              refine tr_condp (fe_t rfl) (fun hq7 => ?_) (fun hq8 => ?_)
              · exfalso; omega
              · try (exfalso; omega)
                all_goals
                  refine tr_skip ?_
                  refine tx_then ?_
                  refine tr_seq ?_
                  refine tr_region ?_
                  refine tl_step rfl (oj_val (y_assign fe_c) ?_)
                  refine tl_nil ?_
                  refine tx_then ?_
                  refine tr_seq ?_
                  refine tr_region ?_
                  refine tl_step rfl (oj_makeMap (fun b_mp => ?_))
                  refine tl_step rfl (oj_val (y_assign (fe_t rfl)) ?_)
                  refine tl_nil ?_
                  refine tx_then ?_
                  refine tr_seq ?_
                  refine tr_seq ?_
                  refine tr_region ?_
                  refine tl_step rfl (oj_val (y_move (fe_t rfl)) ?_)
                  refine tl_step rfl (oj_val (y_len Tryd.underlying67 (fe_t rfl)) ?_)
                  refine tl_step rfl (oj_val (y_move fe_c) ?_)
                  refine tl_nil ?_
                  refine tx_then ?_
                  refine tr_block ?_
                  refine tr_add (r := vec 75 3 (.slice none 0 0) 0 []) vec_nil rfl ?_
                  refine tr_loop3 [7, 9, 44, 45, 46, 47, 48, 49, 50, 51, 52, 53, 54, 55, 56, 57, 58, 59, 60, 61, 62] (fun (k : Nat) (z : Vs) (mm : List (Int × Value)) => [(44, .int .i64 (k : Int)), (7, .slice z.A z.n z.c)]) 0 (fun (k : Nat) (z : Vs) (mm : List (Int × Value)) => [(0, vec 75 3 (.slice z.A z.n z.c) z.n z.xs), (1, mpR b_mp mm [])]) (fun (k : Nat) (z : Vs) (mm : List (Int × Value)) => k ≤ n ∧ z.n = (osK (trOf ns) B many k).length ∧ z.xs = (osK (trOf ns) B many k).flatMap c3 ∧ Tab (leavesTo (trOf ns) k) (fun _ => 0) mm) (fun (k : Nat) (z : Vs) (mm : List (Int × Value)) => n - k) (0) (⟨none, 0, 0, []⟩ : Vs) ([]) (cov_cons (by first | rfl | exact v_int (by omega) | exact v_bool (by simp [*])) (cov_cons (by first | rfl | exact v_int (by omega) | exact v_bool (by simp [*])) (cov_nil))) (fun w h => h) ?_ ?_
                  · try dsimp only
                    exact ⟨by omega, rfl, rfl, tab_zero _⟩
                  intro k z mm hp
                  obtain ⟨hk, hzn, hzx, htab⟩ := hp
                  have hob := osK_bd (t := trOf ns) (B := B) (many := many) (k := k) (by omega) hmany
                  refine tr_seq ?_
                  refine tr_region ?_
                  refine tl_step rfl (oj_val (y_lss (fe_t rfl) (fe_t rfl)) ?_)
                  refine tl_nil ?_
                  refine tx_then ?_
                  refine tr_seq ?_
                  refine tr_condp (fe_t rfl) (fun hq9 => ?_) (fun hq10 => ?_)
                  · try (exfalso; omega)
                    all_goals
                      refine tr_skip ?_
                      refine tx_then ?_
                      refine tr_seq ?_
                      refine tr_block ?_
                      refine tr_seq ?_
                      refine tr_region ?_
                      refine tl_step rfl (oj_val (y_move (fe_t rfl)) ?_)
                      refine tl_step rfl (oj_alloc Tryd.zeroValue3 (fun kb => ?_))
                      refine tl_step rfl (oj_store1 0 Tryd.sizeOf3 (fe_t rfl) (fe_t rfl) rfl rfl rfl rfl (?_))
                      refine tl_nil ?_
                      refine tx_then ?_
                      refine tr_seq ?_
                      refine tr_seq ?_
                      refine tr_region ?_
                      refine tl_step rfl (oj_val (y_move (fe_t rfl)) ?_)
                      refine tl_step rfl (oj_val (y_makeFunc (fel_cons (fe_t rfl) fel_nil)) ?_)
                      refine tl_step rfl (oj_call2 Tryd.call26 fe_f (fel_cons (fe_t rfl) (fel_cons (fe_t rfl) fel_nil)) (fun w' hS => contT A n c ns (hS.pick [0, 1, 2] [_, _, _] rfl (by decide)) hr hn (by omega)) (fun q hQ => ?_))
                      refine tl_nil ?_
                      refine tx_then ?_
                      refine tr_cond (fe_t rfl) (fun hq11 => ?_) (fun hq12 => ?_)
                      · try (exfalso; omega)
                        all_goals
                          have hc : ¬ (trOf ns).kids k = [] := hQ.1 (by have h2 := hq11; simpa using h2)
                          refine tr_exit ?_
                          refine tx_then_exit ?_
                          refine tx_in_exit ?_
                          refine tx_then ?_
                          refine tr_region ?_
                          refine tl_step rfl (oj_val (y_inc (fe_t rfl) fe_c (by omega)) ?_)
                          refine tl_step rfl (oj_val (y_move (fe_t rfl)) ?_)
                          refine tl_nil ?_
                          apply tx_back3 (k + 1) (z) (mm)
                          · exact (cov_cons (by first | rfl | exact v_int (by omega) | exact v_bool (by simp [*])) (cov_cons (by first | rfl | exact v_int (by omega) | exact v_bool (by simp [*])) (cov_nil)))
                          · repeat (first | exact over_nil | refine over_put rfl ?_ | refine over_drop rfl ?_)
                          · exact fun w h => h.pick [1, 2] _ rfl (by decide)
                          · exact ⟨⟨by omega, by rw [osK_no hc]; exact hzn, by rw [osK_no hc]; exact hzx, tab_not htab hc⟩, by omega⟩
                      · try (exfalso; omega)
                        all_goals
                          have hc : (trOf ns).kids k = [] := Classical.not_not.1 (fun h0 => by have h1 := hQ.2 h0; have h2 := hq12; simp [h1] at h2)
                          refine tr_skip ?_
                          refine tx_then ?_
                          refine tr_seq ?_
                          refine tr_region ?_
                          refine tl_step rfl (oj_val (y_move (fe_t rfl)) ?_)
                          refine tl_step rfl (oj_val (y_ldb 0 Tryd.isAgg3 (fe_t rfl) rfl rfl) ?_)
                          refine tl_step rfl (oj_mapPut 2 Tryd.underlying69 Tryd.underlying3 (fe_t rfl) (fe_t rfl) fe_c rfl (.inl rfl) (?_))
                          refine tl_nil ?_
                          refine tx_then ?_
                          refine tr_seq ?_
                          refine tr_region ?_
                          refine tl_step rfl (oj_val (y_move (fe_t rfl)) ?_)
                          refine tl_step rfl (oj_val (y_move fe_c) ?_)
                          refine tl_nil ?_
                          refine tx_then ?_
                          refine tr_block ?_
                          refine tr_loop2 [7, 53, 54, 55, 56, 57, 58, 59, 60, 61] (fun (b : Nat) (z2 : Vs) => [(53, .int .i64 (b : Int)), (7, .slice z2.A z2.n z2.c)]) 0 (fun (b : Nat) (z2 : Vs) => [(1, vec 75 3 (.slice z2.A z2.n z2.c) z2.n z2.xs)]) (fun (b : Nat) (z2 : Vs) => b ≤ many ∧ z2.n = (osK (trOf ns) B many k).length + b ∧ z2.xs = (osK (trOf ns) B many k ++ List.replicate b (1, (k : Int), B)).flatMap c3) (fun (b : Nat) (z2 : Vs) => many - b) (0) (z) (cov_cons (by first | rfl | exact v_int (by omega) | exact v_bool (by simp [*])) (cov_cons (by first | rfl | exact v_int (by omega) | exact v_bool (by simp [*])) (cov_nil))) (fun w h => h) ?_ ?_
                          · try dsimp only
                            exact ⟨by omega, hzn, by rw [hzx]; simp⟩
                          intro b z2 hp
                          obtain ⟨hb, hzn2, hzx2⟩ := hp
                          refine tr_seq ?_
                          refine tr_region ?_
                          refine tl_step rfl (oj_val (y_lss (fe_t rfl) (fe_t rfl)) ?_)
                          refine tl_nil ?_
                          refine tx_then ?_
                          refine tr_seq ?_
                          refine tr_condp (fe_t rfl) (fun hq13 => ?_) (fun hq14 => ?_)
                          · try (exfalso; omega)
                            all_goals
                              refine tr_skip ?_
                              refine tx_then ?_
                              refine tr_seq ?_
                              refine tr_block ?_
                              refine tr_region ?_
                              refine tl_step rfl (oj_val (y_move (fe_t rfl)) ?_)
                              refine tl_step rfl (oj_val (y_ldb 0 Tryd.isAgg3 (fe_t rfl) rfl rfl) ?_)
                              refine tl_step rfl (oj_val (y_move (fe_t rfl)) ?_)
                              refine tl_step rfl (oj_val ((fun {u0 u1 u2} hx hb => y_build (is := [0, 1, 2]) (vs := [u0, u1, u2]) (cs := [u0, u1, u2]) rfl hx hb) (fel_cons (fe_c (v := .int .i64 1)) (fel_cons (fe_t rfl) (fel_cons (fe_t rfl) fel_nil))) (by kernel_rfl)) ?_)
                              refine tl_step rfl (oj_slice1 Tryd.underlying68 Tryd.sizeOf75 Tryd.zeroValue75 (fe_t rfl) (by decide) rfl (fun b1 => ?_))
                              refine tl_step rfl (oj_append (i := 2) (s := 3) (z := (.agg #[.int .i64 0, .int .i64 0, .int .i64 0])) (bytes := 24) Tryd.underlying68 (by kernel_rfl) (fe_t rfl) (fe_t rfl) rfl (rdl_blk 0 rfl) rfl (by decide) (by first | exact oneI | exact oneF (fun _ => rfl) | exact fun u hu => List.all_eq_true.1 (show List.all _ (fun x => x.oneCell') = true from rfl) u hu | (intro u hu; revert u hu; simp [Value.oneCell'])) (by decide) ⟨by omega, by decide⟩ (fun Aa1 ca1 hca1 => ?_))
                              refine tl_step rfl (oj_val (y_assign (fe_t rfl)) ?_)
                              refine tl_nil ?_
                              refine tx_in ?_
                              refine tx_then ?_
                              refine tr_region ?_
                              refine tl_step rfl (oj_val (y_inc (fe_t rfl) fe_c (by omega)) ?_)
                              refine tl_step rfl (oj_val (y_move (fe_t rfl)) ?_)
                              refine tl_nil ?_
                              apply tx_back2 (b + 1) ((⟨_, _, _, _⟩ : Vs))
                              · exact (cov_cons (by first | rfl | exact v_int (by omega) | exact v_bool (by simp [*])) (cov_cons (by first | rfl | exact v_int (by omega) | exact v_bool (by simp [*])) (cov_nil)))
                              · repeat (first | exact over_nil | refine over_put rfl ?_ | refine over_drop rfl ?_)
                              · exact fun w h => h.pick [1, 2, 3] _ rfl (by decide)
                              · refine ⟨⟨by omega, by dsimp only; omega, ?_⟩, by omega⟩
                                dsimp only
                                rw [hzx2, List.replicate_succ', ← List.append_assoc, List.flatMap_append (xs := _ ++ _)]
                                rfl
                          · try (exfalso; omega)
                            all_goals
                              refine tr_exit ?_
                              refine tx_then_exit ?_
                              refine tx_then_exit ?_
                              refine tx_in_exit ?_
                              refine tx_in ?_
                              refine tx_then ?_
                              refine tr_region ?_
                              refine tl_step rfl (oj_val (y_inc (fe_t rfl) fe_c (by omega)) ?_)
                              refine tl_step rfl (oj_val (y_move (fe_t rfl)) ?_)
                              refine tl_nil ?_
                              apply tx_back3 (k + 1) (z2) (_)
                              · exact (cov_cons (by first | rfl | exact v_int (by omega) | exact v_bool (by simp [*])) (cov_cons (by first | rfl | exact v_int (by omega) | exact v_bool (by simp [*])) (cov_nil)))
                              · repeat (first | exact over_nil | refine over_put rfl ?_ | refine over_drop rfl ?_)
                              · exact fun w h => h.pick [1, 2] _ rfl (by decide)
                              · obtain rfl : many = b := by omega
                                exact ⟨⟨by omega, by rw [osK_yes hc, List.length_append, List.length_replicate]; omega, by rw [osK_yes hc]; exact hzx2, tab_leaf htab hc rfl⟩, by omega⟩
                  · try (exfalso; omega)
                    all_goals
                      refine tr_exit ?_
                      refine tx_then_exit ?_
                      refine tx_then_exit ?_
                      refine tx_in_exit ?_
                      refine tx_then ?_
                      refine tr_seq ?_
                      refine tr_seq ?_
                      obtain rfl : n = k := by omega
                      refine tr_region ?_
                      refine tl_step rfl (oj_val (y_move (fe_t rfl)) ?_)
                      refine tl_step rfl (oj_val (y_len Tryd.underlying68 (fe_t rfl)) ?_)
                      refine tl_step rfl (oj_val (y_move (fe_t rfl)) ?_)
                      refine tl_step rfl (oj_val (y_add (fe_t rfl) (fe_t rfl) (by omega)) ?_)
                      refine tl_step rfl (oj_val (y_gtr (fe_t rfl) fe_c) ?_)
                      refine tl_nil ?_
                      refine tx_then ?_
                      refine tr_condp (fe_t rfl) (fun hq15 => ?_) (fun hq16 => ?_)
                      · try (exfalso; omega)
                        all_goals
                          refine tr_seq ?_
                          refine tr_region ?_
                          refine tl_step rfl (oj_val (y_assign fe_c) ?_)
                          refine tl_nil ?_
                          refine tx_then ?_
                          refine tr_ret ?_
                          refine tx_then_ret ?_
                          refine tx_ret (res1 Tryd.results7 (rok_t rfl)) (fun w' hS => ?_)
                          exact ⟨by first | rfl | simp, hS.pick [] _ rfl (by decide)⟩
                      · try (exfalso; omega)
                        all_goals
                          refine tr_skip ?_
                          refine tx_then ?_
                          refine tr_seq ?_
                          refine tr_seq ?_
                          refine tr_region ?_
                          refine tl_step rfl (oj_val (y_move (fe_t rfl)) ?_)
                          refine tl_step rfl (oj_val (y_move fe_c) ?_)
                          refine tl_nil ?_
                          refine tx_then ?_
                          refine tr_block ?_
                          refine tr_loop2 [7, 69, 70, 71, 72, 73, 74, 75] (fun (b : Nat) (z3 : Vs) => [(69, .int .i64 (b : Int)), (7, .slice z3.A z3.n z3.c)]) 0 (fun (b : Nat) (z3 : Vs) => [(0, vec 75 3 (.slice z3.A z3.n z3.c) z3.n z3.xs)]) (fun (b : Nat) (z3 : Vs) => b ≤ many ∧ z3.n = (osK (trOf ns) B many n).length + b ∧ z3.xs = (osK (trOf ns) B many n ++ List.replicate b (2, 0, 0)).flatMap c3) (fun (b : Nat) (z3 : Vs) => many - b) (0) (z) (cov_cons (by first | rfl | exact v_int (by omega) | exact v_bool (by simp [*])) (cov_cons (by first | rfl | exact v_int (by omega) | exact v_bool (by simp [*])) (cov_nil))) (fun w h => h) ?_ ?_
                          · try dsimp only
                            exact ⟨by omega, hzn, by rw [hzx]; simp⟩
                          intro b z3 hp
                          obtain ⟨hb, hzn, hzx⟩ := hp
                          refine tr_seq ?_
                          refine tr_region ?_
                          refine tl_step rfl (oj_val (y_lss (fe_t rfl) (fe_t rfl)) ?_)
                          refine tl_nil ?_
                          refine tx_then ?_
                          refine tr_seq ?_
                          refine tr_condp (fe_t rfl) (fun hq17 => ?_) (fun hq18 => ?_)
                          · try (exfalso; omega)
                            all_goals
                              refine tr_skip ?_
                              refine tx_then ?_
                              refine tr_seq ?_
                              refine tr_block ?_
                              refine tr_region ?_
                              refine tl_step rfl (oj_val (y_move (fe_t rfl)) ?_)
                              refine tl_step rfl (oj_val ((fun {u0} hx hb => y_build (is := [0]) (vs := [u0]) (cs := [u0, .int .i64 0, .int .i64 0]) rfl hx hb) (fel_cons (fe_c (v := .int .i64 2)) fel_nil) (by kernel_rfl)) ?_)
                              refine tl_step rfl (oj_slice1 Tryd.underlying68 Tryd.sizeOf75 Tryd.zeroValue75 (fe_t rfl) (by decide) rfl (fun b2 => ?_))
                              refine tl_step rfl (oj_append (i := 1) (s := 3) (z := (.agg #[.int .i64 0, .int .i64 0, .int .i64 0])) (bytes := 24) Tryd.underlying68 (by kernel_rfl) (fe_t rfl) (fe_t rfl) rfl (rdl_blk 0 rfl) rfl (by decide) (by first | exact oneI | exact oneF (fun _ => rfl) | exact fun u hu => List.all_eq_true.1 (show List.all _ (fun x => x.oneCell') = true from rfl) u hu | (intro u hu; revert u hu; simp [Value.oneCell'])) (by decide) ⟨by omega, by decide⟩ (fun Aa2 ca2 hca2 => ?_))
                              refine tl_step rfl (oj_val (y_assign (fe_t rfl)) ?_)
                              refine tl_nil ?_
                              refine tx_in ?_
                              refine tx_then ?_
                              refine tr_region ?_
                              refine tl_step rfl (oj_val (y_inc (fe_t rfl) fe_c (by omega)) ?_)
                              refine tl_step rfl (oj_val (y_move (fe_t rfl)) ?_)
                              refine tl_nil ?_
                              apply tx_back2 (b + 1) ((⟨_, _, _, _⟩ : Vs))
                              · exact (cov_cons (by first | rfl | exact v_int (by omega) | exact v_bool (by simp [*])) (cov_cons (by first | rfl | exact v_int (by omega) | exact v_bool (by simp [*])) (cov_nil)))
                              · repeat (first | exact over_nil | refine over_put rfl ?_ | refine over_drop rfl ?_)
                              · exact fun w h => h.pick [1, 2] _ rfl (by decide)
                              · refine ⟨⟨by omega, by dsimp only; omega, ?_⟩, by omega⟩
                                dsimp only
                                rw [hzx, List.replicate_succ', ← List.append_assoc, List.flatMap_append (xs := _ ++ _)]
                                rfl
                          · try (exfalso; omega)
                            all_goals
                              refine tr_exit ?_
                              refine tx_then_exit ?_
                              refine tx_then_exit ?_
                              refine tx_in_exit ?_
                              refine tx_then ?_
                              refine tr_seq ?_
                              obtain rfl : many = b := by omega
                              refine tr_region ?_
                              refine tl_step rfl (oj_val (y_move (fe_t rfl)) ?_)
                              refine tl_step rfl (oj_val (y_move (fe_t rfl)) ?_)
                              refine tl_step rfl (oj_call Tryd.call28 fe_f (fel_cons (fe_t rfl) (fel_cons (fe_t rfl) fel_nil)) (fun w' hS => playT A n c ns w' (Rd.below hr hS.below) hn hm (osK (trOf ns) B many n ++ List.replicate many (2, 0, 0)) (rd_v hS 0 rfl) hzx (by rw [List.length_append, List.length_replicate]; omega) hwt (by rw [List.length_append, List.length_replicate]; omega)) (fun R hR => ?_))
                              refine tl_step rfl (oj_val (y_move (fe_t rfl)) ?_)
                              refine tl_step rfl (oj_val (y_extract (fe_t rfl) rfl) ?_)
                              refine tl_step rfl (oj_val (y_extract (fe_t rfl) rfl) ?_)
                              refine tl_step rfl (oj_val (y_extract (fe_t rfl) rfl) ?_)
                              refine tl_step rfl (oj_val (y_extract (fe_t rfl) rfl) ?_)
                              refine tl_step rfl (oj_val (y_assign (fe_t rfl)) ?_)
                              refine tl_step rfl (oj_val (y_assign (fe_t rfl)) ?_)
                              refine tl_step rfl (oj_val (y_assign (fe_t rfl)) ?_)
                              refine tl_step rfl (oj_val (y_assign (fe_t rfl)) ?_)
                              refine tl_nil ?_
                              refine tx_then ?_
                              refine tr_seq ?_
                              refine tr_seq ?_
                              have g := good_of hwt
                              obtain ⟨hs1, hs2, cnt, hs3, hs4, hs5⟩ := hier_sent g hB (many := many) (by omega) (os := (osK (trOf ns) B many n ++ List.replicate many (2, 0, 0))) (by rw [trOf_n, hn]; rfl) hR.1
                              have hsn := hR.2.2.1.1
                              refine tr_region ?_
                              refine tl_step rfl (oj_val (y_move (fe_t rfl)) ?_)
                              refine tl_step rfl (oj_val (y_neq (fe_t rfl) fe_c) ?_)
                              refine tl_nil ?_
                              refine tx_then ?_
                              refine tr_condp (fe_t rfl) (fun hq19 => ?_) (fun hq20 => ?_)
                              · exfalso; omega
                              · try (exfalso; omega)
                                all_goals
                                  refine tr_skip ?_
                                  refine tx_then ?_
                                  refine tr_seq ?_
                                  refine tr_seq ?_
                                  refine tr_region ?_
                                  refine tl_step rfl (oj_val (y_move (fe_t rfl)) ?_)
                                  refine tl_step rfl (oj_val (y_len Tryd.underlying77 (fe_t rfl)) ?_)
                                  refine tl_step rfl (oj_val (y_move (fe_t rfl)) ?_)
                                  refine tl_step rfl (oj_val (y_neq (fe_t rfl) (fe_t rfl)) ?_)
                                  refine tl_nil ?_
                                  refine tx_then ?_
                                  refine tr_condp (fe_t rfl) (fun hq21 => ?_) (fun hq22 => ?_)
                                  · exfalso; omega
                                  · try (exfalso; omega)
                                    all_goals
                                      refine tr_skip ?_
                                      refine tx_then ?_
                                      refine tr_seq ?_
                                      refine tr_seq ?_
                                      refine tr_region ?_
                                      refine tl_step rfl (oj_val (y_move (fe_t rfl)) ?_)
                                      refine tl_step rfl (oj_val (y_len Tryd.underlying77 (fe_t rfl)) ?_)
                                      refine tl_step rfl (oj_val (y_move fe_c) ?_)
                                      refine tl_nil ?_
                                      refine tx_then ?_
                                      refine tr_block ?_
                                      refine tr_loop2 [15, 95, 96, 97, 98, 99, 100, 101, 102, 103, 104] (fun (i : Nat) (mm : List (Int × Value)) => [(95, .int .i64 (i : Int))]) 0 (fun (i : Nat) (mm : List (Int × Value)) => [(4, mpR b_mp mm [])]) (fun (i : Nat) (mm : List (Int × Value)) => i ≤ many ∧ Tab (leavesTo (trOf ns) n) (fun c => (cntS (R.1.sent.take i) c : Int)) mm) (fun (i : Nat) (mm : List (Int × Value)) => many - i) (0) (mm) (cov_cons (by first | rfl | exact v_int (by omega) | exact v_bool (by simp [*])) (cov_nil)) (fun w h => h) ?_ ?_
                                      · try dsimp only
                                        exact ⟨by omega, htab⟩
                                      intro i mm hp
                                      obtain ⟨hi, htab⟩ := hp
                                      refine tr_seq ?_
                                      refine tr_region ?_
                                      refine tl_step rfl (oj_val (y_lss (fe_t rfl) (fe_t rfl)) ?_)
                                      refine tl_nil ?_
                                      refine tx_then ?_
                                      refine tr_seq ?_
                                      refine tr_condp (fe_t rfl) (fun hq23 => ?_) (fun hq24 => ?_)
                                      · try (exfalso; omega)
                                        all_goals
                                          refine tr_skip ?_
                                          refine tx_then ?_
                                          refine tr_seq ?_
                                          refine tr_block ?_
                                          refine tr_seq ?_
                                          refine tr_region ?_
                                          refine tl_step rfl (oj_val (y_index Tryd.underlying77 Tryd.sizeOf81 (fe_t rfl) (fe_t rfl) (rdl_vec 1 rfl) (by rw [hR.2.2.1.2, lenN rfl, hR.2.2.1.1]) (by decide) (by omega) rfl) ?_)
                                          refine tl_step rfl (oj_val (y_ldA (cs := [(.int .i64 (n1 R.1.sent i)), (.int .i64 (n2 R.1.sent i))]) Tryd.isAgg81 Tryd.sizeOf81 (fe_t rfl) (rdl_vec 1 rfl) rfl (by decide) (by rw [hR.2.2.1.2]; exact getN (by omega))) ?_)
                                          refine tl_step rfl (oj_alloc Tryd.zeroValue81 (fun sb => ?_))
                                          refine tl_step rfl (oj_storeW 0 Tryd.sizeOf81 (fe_t rfl) (fe_t rfl) rfl rfl rfl rfl rfl (?_))
                                          refine tl_nil ?_
                                          refine tx_then ?_
                                          obtain ⟨ri, hri, hrn, hrk⟩ := n1_mem (i := i) (l := R.1.sent) (p := fun x => ∃ r : Nat, x = r ∧ r < (trOf ns).n ∧ (trOf ns).kids r = []) (by omega) hs2
                                          have hrm : ri ∈ leavesTo (trOf ns) n := mem_leaves.2 ⟨by rw [trOf_n, hn] at hrn; exact hrn, hrk⟩
                                          have hlk : (mget mm (n1 R.1.sent i)).getD (.int .i64 0) = .int .i64 ((cntS (R.1.sent.take i) ri : Nat) : Int) := by rw [hri, htab.1 ri hrm]; rfl
                                          have hcl := cntS_le (l := R.1.sent.take i) (c := ri)
                                          rw [List.length_take] at hcl
                                          refine tr_region ?_
                                          refine tl_step rfl (oj_val (y_move (fe_t rfl)) ?_)
                                          refine tl_step rfl (oj_val (y_fieldAddr (td := 3) Tryd.underlying81 rfl rfl Tryd.sizeOf3 (o' := 0) rfl (fe_t rfl)) ?_)
                                          refine tl_step rfl (oj_val (y_ldb 0 Tryd.isAgg3 (fe_t rfl) rfl rfl) ?_)
                                          refine tl_step rfl (oj_val (y_asv (y_lookup 5 Tryd.underlying69 Tryd.underlying3 Tryd.zeroValue3 (fe_t rfl) (fe_t rfl) rfl) hlk) ?_)
                                          refine tl_step rfl (oj_val (y_add (fe_t rfl) fe_c (by omega)) ?_)
                                          refine tl_step rfl (oj_mapPut 5 Tryd.underlying69 Tryd.underlying3 (fe_t rfl) (fe_t rfl) (fe_t rfl) rfl (.inl rfl) (?_))
                                          refine tl_nil ?_
                                          refine tx_in ?_
                                          refine tx_then ?_
                                          refine tr_region ?_
                                          refine tl_step rfl (oj_val (y_inc (fe_t rfl) fe_c (by omega)) ?_)
                                          refine tl_step rfl (oj_val (y_move (fe_t rfl)) ?_)
                                          refine tl_nil ?_
                                          apply tx_back2 (i + 1) (_)
                                          · exact (cov_cons (by first | rfl | exact v_int (by omega) | exact v_bool (by simp [*])) (cov_nil))
                                          · repeat (first | exact over_nil | refine over_put rfl ?_ | refine over_drop rfl ?_)
                                          · exact fun w h => h.pick [1, 2, 3, 4, 5] _ rfl (by decide)
                                          · refine ⟨⟨by omega, ?_⟩, by omega⟩
                                            rw [hri]
                                            exact tab_put htab hrm (by (try dsimp only); rw [cntS_take (r := ri) (by omega) hri, if_pos rfl]; omega) (fun j hj => by (try dsimp only); rw [cntS_take (r := ri) (by omega) hri, if_neg hj]; omega)
                                      · try (exfalso; omega)
                                        all_goals
                                          refine tr_exit ?_
                                          refine tx_then_exit ?_
                                          refine tx_then_exit ?_
                                          refine tx_in_exit ?_
                                          refine tx_then ?_
                                          refine tr_seq ?_
                                          refine tr_seq ?_
                                          obtain rfl : many = i := by omega
                                          rw [List.take_of_length_le (by omega)] at htab
                                          refine tr_region ?_
                                          refine tl_step rfl (oj_val (y_move (fe_t rfl)) ?_)
                                          refine tl_step rfl (oj_range 4 Tryd.underlying69 (fe_t rfl) rfl (fun it => ?_))
                                          refine tl_nil ?_
                                          refine tx_then ?_
                                          refine tr_block ?_
                                          refine tr_loop2 [6, 16, 17, 18, 19, 20, 21, 22, 24, 107, 108, 109, 110, 111, 112, 113, 114, 115, 116, 117, 118, 119, 120, 121, 122, 123, 124, 125, 126, 127, 128, 129, 130, 131, 132, 133, 134, 135, 136, 137, 138, 139, 140, 141, 142, 143, 144, 145, 146, 147, 148, 149, 150, 151, 152, 153, 154, 155, 156, 157, 158, 159, 160] (fun (left : List Int) (la : Option Int) => []) 0 (fun (left : List Int) (la : Option Int) => [(4, mpR b_mp mm [⟨it, left, la⟩])]) (fun (left : List Int) (la : Option Int) => True) (fun (left : List Int) (la : Option Int) => left.length) (keys mm) (none) (cov_nil) (fun w h => h) ?_ ?_
                                          · try dsimp only
                                            all_goals trivial
                                          intro left la hp
                                          refine tr_seq ?_
                                          refine tr_region ?_
                                          refine tl_step rfl (oj_next 4 (fe_t rfl) rfl rfl (fun hleft1 => ?_) (fun kk1 vv1 hkl1 hkg1 => ?_))
                                          · refine tl_step rfl (oj_val (y_extract (fe_t rfl) rfl) ?_)
                                            refine tl_nil ?_
                                            refine tx_then ?_
                                            refine tr_seq ?_
                                            refine tr_condf (fe_t rfl) ?_
                                            refine tr_exit ?_
                                            refine tx_then_exit ?_
                                            refine tx_then_exit ?_
                                            refine tx_in_exit ?_
                                            refine tx_then ?_
                                            refine tr_seq ?_
                                            refine tr_region ?_
                                            refine tl_step rfl (oj_val (y_assign fe_c) ?_)
                                            refine tl_nil ?_
                                            refine tx_then ?_
                                            refine tr_ret ?_
                                            refine tx_ret (res1 Tryd.results7 (rok_t rfl)) (fun w' hS => ?_)
                                            exact ⟨by first | rfl | simp, hS.pick [] _ rfl (by decide)⟩
                                          · obtain ⟨kc, hkc, rfl, hv⟩ := htab.2 _ _ hkg1
                                            obtain rfl : vv1 = .int .i64 ((cntS R.1.sent kc : Nat) : Int) := hv
                                            obtain ⟨hkn, hkk⟩ := mem_leaves.1 hkc
                                            have hkc2 := hs4 kc (by rw [trOf_n, hn]; exact hkn) hkk
                                            have hkc3 := cntS_le (l := R.1.sent) (c := kc)
                                            have hn16 := g.n16
                                            rw [trOf_n, hn] at hn16
                                            refine tl_step rfl (oj_val (y_extract (fe_t rfl) rfl) ?_)
                                            refine tl_nil ?_
                                            refine tx_then ?_
                                            refine tr_seq ?_
                                            refine tr_condt (fe_t rfl) ?_
                                            refine tr_skip ?_
                                            refine tx_then ?_
                                            refine tr_block ?_
                                            refine tr_seq ?_
                                            refine tr_region ?_
                                            refine tl_step rfl (oj_val (y_entry 4 (fe_t rfl) rfl hkg1) ?_)
                                            refine tl_step rfl (oj_val (y_extract (fe_t rfl) rfl) ?_)
                                            refine tl_step rfl (oj_val (y_extract (fe_t rfl) rfl) ?_)
                                            refine tl_step rfl (oj_val (y_assign (fe_t rfl)) ?_)
                                            refine tl_step rfl (oj_val (y_assign (fe_t rfl)) ?_)
                                            refine tl_nil ?_
                                            refine tx_then ?_
                                            refine tr_seq ?_
                                            refine tr_region ?_
                                            refine tl_step rfl (oj_val (y_assign fe_c) ?_)
                                            refine tl_step rfl (oj_val (y_assign fe_c) ?_)
                                            refine tl_step rfl (oj_val (y_assign fe_c) ?_)
                                            refine tl_nil ?_
                                            refine tx_then ?_
                                            refine tr_seq ?_
                                            refine tr_seq ?_
                                            refine tr_region ?_
                                            refine tl_step rfl (oj_val (y_move (fe_t rfl)) ?_)
                                            refine tl_step rfl (oj_val (y_assign (fe_t rfl)) ?_)
                                            refine tl_nil ?_
                                            refine tx_then ?_
                                            refine tr_block ?_
                                            refine tr_loop4 [18, 19, 20, 21, 22, 24, 113, 114, 115, 116, 117, 118, 119, 120, 121, 122, 123, 124, 125, 126, 127, 128, 129, 130, 131, 132, 133, 134, 135, 136, 137, 138, 139, 140, 141, 142, 143, 144, 145, 146, 147, 148, 149, 150] (fun (i : Nat) (num : Int) (den : Int) (stp : Int) => [(21, .int .i64 (i : Int)), (18, .int .i64 num), (19, .int .i64 den), (20, .int .i64 stp)]) 0 (fun (i : Nat) (num : Int) (den : Int) (stp : Int) => []) (fun (i : Nat) (num : Int) (den : Int) (stp : Int) => Chn (trOf ns) cnt kc i num den stp) (fun (i : Nat) (num : Int) (den : Int) (stp : Int) => i) (kc) (1) (1) (0) (cov_cons (by first | rfl | exact v_int (by omega) | exact v_bool (by simp [*])) (cov_cons (by first | rfl | exact v_int (by omega) | exact v_bool (by simp [*])) (cov_cons (by first | rfl | exact v_int (by omega) | exact v_bool (by simp [*])) (cov_cons (by first | rfl | exact v_int (by omega) | exact v_bool (by simp [*])) (cov_nil))))) (fun w h => h) ?_ ?_
                                            · try dsimp only
                                              exact Chn.start (by rw [trOf_n, hn]; exact hkn)
                                            intro i num den stp hp
                                            have hch := hp
                                            have hil := hch.ilt
                                            rw [trOf_n, hn] at hil
                                            have hst := hch.st
                                            have hpos := hch.pos
                                            have hsm := hch.small g
                                            refine tr_seq ?_
                                            refine tr_seq ?_
                                            refine tr_region ?_
                                            refine tl_step rfl (oj_val (y_move (fe_t rfl)) ?_)
                                            refine tl_step rfl (oj_val (y_gtr (fe_t rfl) fe_c) ?_)
                                            refine tl_nil ?_
                                            refine tx_then ?_
                                            refine tr_condp (fe_t rfl) (fun hq25 => ?_) (fun hq26 => ?_)
                                            · try (exfalso; omega)
                                              all_goals
                                                refine tr_skip ?_
                                                refine tx_then ?_
                                                refine tr_seq ?_
                                                refine tr_block ?_
                                                refine tr_seq ?_
                                                have hi0 : 0 < i := by omega
                                                obtain ⟨p, hp⟩ := Int.eq_ofNat_of_zero_le (g.u i hi0 hch.ilt).1
                                                have hlt := (g.u i hi0 hch.ilt).2
                                                rw [hp] at hlt
                                                have hp1 : n1 ns i = (p : Int) := by rw [← trOf_u, hp]
                                                have hch2 := hch.step g hp (hs5 i p hch.ilt hp)
                                                have hsum : (trOf ns).sum p = (trOf ns).sumTo n p := by rw [Tr.sum, trOf_n, hn]
                                                rw [hsum] at hch2
                                                have hsm2 := hch2.small g
                                                have hpos2 := hch2.pos
                                                have hwi := g.w i hch.ilt
                                                rw [trOf_w] at hwi hpos2
                                                refine tr_region ?_
                                                refine tl_step rfl (oj_val (y_assign fe_c) ?_)
                                                refine tl_nil ?_
                                                refine tx_then ?_
                                                refine tr_seq ?_
                                                refine tr_seq ?_
                                                refine tr_region ?_
                                                refine tl_step rfl (oj_val (y_move (fe_t rfl)) ?_)
                                                refine tl_step rfl (oj_val (y_len Tryd.underlying67 (fe_t rfl)) ?_)
                                                refine tl_step rfl (oj_val (y_move fe_c) ?_)
                                                refine tl_nil ?_
                                                refine tx_then ?_
                                                refine tr_block ?_
                                                refine tr_loop1 [22, 24, 122, 123, 124, 125, 126, 127, 128, 129, 130, 131, 132, 133, 134, 135, 136, 137, 138] (fun (j : Nat) => [(122, .int .i64 (j : Int)), (22, .int .i64 ((trOf ns).sumTo j p))]) 0 (fun (j : Nat) => []) (fun (j : Nat) => j ≤ n) (fun (j : Nat) => n - j) (0) (cov_cons (by first | rfl | exact v_int (by omega) | exact v_bool (by simp [*])) (cov_cons (by first | rfl | exact v_int (by omega) | exact v_bool (by simp [*])) (cov_nil))) (fun w h => h) ?_ ?_
                                                · try dsimp only
                                                  exact (Nat.zero_le _)
                                                intro j hp
                                                have hj := hp
                                                refine tr_seq ?_
                                                refine tr_region ?_
                                                refine tl_step rfl (oj_val (y_lss (fe_t rfl) (fe_t rfl)) ?_)
                                                refine tl_nil ?_
                                                refine tx_then ?_
                                                refine tr_seq ?_
                                                refine tr_condp (fe_t rfl) (fun hq27 => ?_) (fun hq28 => ?_)
                                                · try (exfalso; omega)
                                                  all_goals
                                                    refine tr_skip ?_
                                                    refine tx_then ?_
                                                    refine tr_seq ?_
                                                    refine tr_block ?_
                                                    refine tr_seq ?_
                                                    have hsb := sumTo_bd g (k := p) (n := j) (by rw [trOf_n, hn]; omega)
                                                    have hsj := g.w j (by rw [trOf_n, hn]; omega)
                                                    rw [trOf_w] at hsj
                                                    have hss : (trOf ns).sumTo (j + 1) p = (trOf ns).sumTo j p + bif decide ((trOf ns).u j = (p : Int)) then (trOf ns).w j else 0 := rfl
                                                    rw [trOf_u, trOf_w] at hss
                                                    refine tr_region ?_
                                                    refine tl_step rfl (oj_val (y_index Tryd.underlying67 Tryd.sizeOf72 (fe_t rfl) (fe_t rfl) (rdl_out hr) (lenN hn) (by decide) (by omega) rfl) ?_)
                                                    refine tl_step rfl (oj_val (y_ldA (cs := [(.int .i64 (n1 ns j)), (.int .i64 (n2 ns j))]) Tryd.isAgg72 Tryd.sizeOf72 (fe_t rfl) (rdl_out hr) rfl (by decide) (getN (by omega))) ?_)
                                                    refine tl_step rfl (oj_alloc Tryd.zeroValue72 (fun nb => ?_))
                                                    refine tl_step rfl (oj_storeW 0 Tryd.sizeOf72 (fe_t rfl) (fe_t rfl) rfl rfl rfl rfl rfl (?_))
                                                    refine tl_nil ?_
                                                    refine tx_then ?_
                                                    refine tr_seq ?_
                                                    refine tb_draw 8 (sel _ [0, 1, 2, 3, 4, 5]) (fun w h => h.sel _ rfl (by decide)) rfl ?_
                                                    refine tb_float (i := 0) rfl (by kernel_rfl) rfl (wants_none rfl) (yq_of (y_fieldAddr (td := 3) Tryd.underlying72 rfl rfl Tryd.sizeOf3 (o' := 0) rfl (fe_t rfl))) ?_
                                                    refine tb_float (i := 1) rfl (by kernel_rfl) rfl (wants_none rfl) (yq_of (y_ldb 0 Tryd.isAgg3 (fe_t rfl) rfl rfl)) ?_
                                                    refine tb_float (i := 2) rfl (by kernel_rfl) rfl (wants_none rfl) (yq_of (y_move (fe_t rfl))) ?_
                                                    refine tb_float (i := 3) rfl (by kernel_rfl) rfl (wants_none rfl) (yq_of (y_move (fe_t rfl))) ?_
                                                    refine tb_float (i := 4) rfl (by kernel_rfl) rfl (wants_none rfl) (yq_of (y_index Tryd.underlying67 Tryd.sizeOf72 (fe_t rfl) (fe_t rfl) (rdl_out hr) (lenN hn) (by decide) (by omega) rfl)) ?_
                                                    refine tb_float (i := 5) rfl (by kernel_rfl) rfl (wants_none rfl) (yq_of (y_fieldAddrE (td := 3) Tryd.underlying72 rfl rfl Tryd.sizeOf3 rfl (fe_t rfl) (rdl_out hr) (by rw [lenN hn]; omega))) ?_
                                                    refine tb_float (i := 6) rfl (by kernel_rfl) rfl (wants_none rfl) (yq_of (y_ld Tryd.isAgg3 (fe_t rfl) (rdl_out hr) (getN1 (l := ns) (by omega)))) ?_
                                                    refine tb_float (i := 7) rfl (by kernel_rfl) rfl (wants_none rfl) (yq_of (y_eq (fe_t rfl) (fe_t rfl))) ?_
                                                    refine tb_done (by kernel_rfl) ?_
                                                    refine tx_then ?_
                                                    refine tr_condp (fe_t rfl) (fun hq29 => ?_) (fun hq30 => ?_)
                                                    · try (exfalso; omega)
                                                      all_goals
                                                        rw [decide_eq_true (show n1 ns j = (p : Int) by omega)] at hss
                                                        simp only [cond_true] at hss
                                                        refine tr_region ?_
                                                        refine tl_step rfl (oj_val (y_move (fe_t rfl)) ?_)
                                                        refine tl_step rfl (oj_val (y_fieldAddr (td := 3) Tryd.underlying72 rfl rfl Tryd.sizeOf3 (o' := 1) rfl (fe_t rfl)) ?_)
                                                        refine tl_step rfl (oj_val (y_ldb 0 Tryd.isAgg3 (fe_t rfl) rfl rfl) ?_)
                                                        refine tl_step rfl (oj_val (y_add (fe_t rfl) (fe_t rfl) (by omega)) ?_)
                                                        refine tl_step rfl (oj_val (y_assign (fe_t rfl)) ?_)
                                                        refine tl_nil ?_
                                                        refine tx_in ?_
                                                        refine tx_then ?_
                                                        refine tr_region ?_
                                                        refine tl_step rfl (oj_val (y_inc (fe_t rfl) fe_c (by omega)) ?_)
                                                        refine tl_step rfl (oj_val (y_move (fe_t rfl)) ?_)
                                                        refine tl_nil ?_
                                                        apply tx_back1 (j + 1)
                                                        · exact (cov_cons (by first | rfl | exact v_int (by omega) | exact v_bool (by simp [*])) (cov_cons (by first | rfl | exact v_int (by omega) | exact v_bool (by simp [*])) (cov_nil)))
                                                        · repeat (first | exact over_nil | refine over_put rfl ?_ | refine over_drop rfl ?_)
                                                        · exact fun w h => h.pick [1, 2, 3, 4, 5] _ rfl (by decide)
                                                        · exact ⟨by omega, by omega⟩
                                                    · try (exfalso; omega)
                                                      all_goals
                                                        rw [decide_eq_false (show ¬ n1 ns j = (p : Int) by omega)] at hss
                                                        simp only [cond_false] at hss
                                                        refine tr_skip ?_
                                                        refine tx_in ?_
                                                        refine tx_then ?_
                                                        refine tr_region ?_
                                                        refine tl_step rfl (oj_val (y_inc (fe_t rfl) fe_c (by omega)) ?_)
                                                        refine tl_step rfl (oj_val (y_move (fe_t rfl)) ?_)
                                                        refine tl_nil ?_
                                                        apply tx_back1 (j + 1)
                                                        · exact (cov_cons (by first | rfl | exact v_int (by omega) | exact v_bool (by simp [*])) (cov_cons (by first | rfl | exact v_int (by omega) | exact v_bool (by simp [*])) (cov_nil)))
                                                        · repeat (first | exact over_nil | refine over_put rfl ?_ | refine over_drop rfl ?_)
                                                        · exact fun w h => h.pick [1, 2, 3, 4, 5] _ rfl (by decide)
                                                        · exact ⟨by omega, by omega⟩
                                                · try (exfalso; omega)
                                                  all_goals
                                                    refine tr_exit ?_
                                                    refine tx_then_exit ?_
                                                    refine tx_then_exit ?_
                                                    refine tx_in_exit ?_
                                                    refine tx_then ?_
                                                    obtain rfl : n = j := by omega
                                                    refine tr_region ?_
                                                    refine tl_step rfl (oj_val (y_move (fe_t rfl)) ?_)
                                                    refine tl_step rfl (oj_val (y_move (fe_t rfl)) ?_)
                                                    refine tl_step rfl (oj_val (y_move (fe_t rfl)) ?_)
                                                    refine tl_step rfl (oj_val (y_index Tryd.underlying67 Tryd.sizeOf72 (fe_t rfl) (fe_t rfl) (rdl_out hr) (lenN hn) (by decide) (by omega) rfl) ?_)
                                                    refine tl_step rfl (oj_val (y_fieldAddrE (td := 3) Tryd.underlying72 rfl rfl Tryd.sizeOf3 rfl (fe_t rfl) (rdl_out hr) (by rw [lenN hn]; omega)) ?_)
                                                    refine tl_step rfl (oj_val (y_ld Tryd.isAgg3 (fe_t rfl) (rdl_out hr) (getN2 (l := ns) (by omega))) ?_)
                                                    refine tl_step rfl (oj_val (y_mul (fe_t rfl) (fe_t rfl) (by omega)) ?_)
                                                    refine tl_step rfl (oj_val (y_move (fe_t rfl)) ?_)
                                                    refine tl_step rfl (oj_val (y_move (fe_t rfl)) ?_)
                                                    refine tl_step rfl (oj_val (y_mul (fe_t rfl) (fe_t rfl) (by omega)) ?_)
                                                    refine tl_step rfl (oj_val (y_move (fe_t rfl)) ?_)
                                                    refine tl_step rfl (oj_val (y_add (fe_t rfl) fe_c (by omega)) ?_)
                                                    refine tl_step rfl (oj_val (y_assign (fe_t rfl)) ?_)
                                                    refine tl_step rfl (oj_val (y_assign (fe_t rfl)) ?_)
                                                    refine tl_step rfl (oj_val (y_assign (fe_t rfl)) ?_)
                                                    refine tl_nil ?_
                                                    refine tx_in ?_
                                                    refine tx_then ?_
                                                    refine tr_region ?_
                                                    refine tl_step rfl (oj_val (y_move (fe_t rfl)) ?_)
                                                    refine tl_step rfl (oj_val (y_move (fe_t rfl)) ?_)
                                                    refine tl_step rfl (oj_val (y_index Tryd.underlying67 Tryd.sizeOf72 (fe_t rfl) (fe_t rfl) (rdl_out hr) (lenN hn) (by decide) (by omega) rfl) ?_)
                                                    refine tl_step rfl (oj_val (y_fieldAddrE (td := 3) Tryd.underlying72 rfl rfl Tryd.sizeOf3 rfl (fe_t rfl) (rdl_out hr) (by rw [lenN hn]; omega)) ?_)
                                                    refine tl_step rfl (oj_val (y_ld Tryd.isAgg3 (fe_t rfl) (rdl_out hr) (getN1 (l := ns) (by omega))) ?_)
                                                    refine tl_step rfl (oj_val (y_assign (fe_t rfl)) ?_)
                                                    refine tl_nil ?_
                                                    apply tx_back4 (p) (num * n2 ns i) (den * (trOf ns).sumTo n p) (stp + 1)
                                                    · exact (cov_cons (by first | rfl | exact v_int (by omega) | exact v_bool (by simp [*])) (cov_cons (by first | rfl | exact v_int (by omega) | exact v_bool (by simp [*])) (cov_cons (by first | rfl | exact v_int (by omega) | exact v_bool (by simp [*])) (cov_cons (by first | rfl | exact v_int (by omega) | exact v_bool (by simp [*])) (cov_nil)))))
                                                    · repeat (first | exact over_nil | refine over_put rfl ?_ | refine over_drop rfl ?_)
                                                    · exact fun w h => h.pick [0, 1, 2, 3, 4] _ rfl (by decide)
                                                    · rw [← trOf_w (l := ns) (k := i)]
                                                      exact ⟨hch2, by omega⟩
                                            · try (exfalso; omega)
                                              all_goals
                                                refine tr_exit ?_
                                                refine tx_then_exit ?_
                                                refine tx_then_exit ?_
                                                refine tx_in_exit ?_
                                                refine tx_then ?_
                                                refine tr_seq ?_
                                                obtain rfl : i = 0 := by omega
                                                have hfin := hch.fin hs3 (nk := (cntS R.1.sent kc : Int)) (by omega) (fun e => by
                                                  obtain ⟨e1, _⟩ := hch.one e
                                                  have hall : ∀ x ∈ R.1.sent, x.1 = ((kc : Nat) : Int) := fun x hx => by
                                                    obtain ⟨r, r1, r2, r3⟩ := hs2 x hx
                                                    have hr0 : r = 0 := by
                                                      by_cases e3 : r = 0
                                                      · exact e3
                                                      · exfalso
                                                        have h10 := g.u 1 (by omega) (by omega)
                                                        exact absurd (e1 ▸ hkk) (kids_ne (t := trOf ns) (c := 1) (p := 0) (by omega) (by omega))
                                                    omega
                                                  rw [cntS_all hall, hs1])
                                                have hfb := Int.mul_le_mul (show (cntS R.1.sent kc : Int) + stp * 3 ≤ 105 by omega) hsm (by omega) (by omega)
                                                have hfb2 := Int.mul_le_mul (show (many : Int) ≤ 60 by omega) (show num ≤ 15407021574586368 by omega) (by omega) (by omega)
                                                have hfb3 := Int.mul_nonneg (show 0 ≤ (many : Int) by omega) (show 0 ≤ num by omega)
                                                rw [Int.mul_comm stp 3] at hfin hfb
                                                refine tr_region ?_
                                                refine tl_step rfl (oj_val (y_move (fe_t rfl)) ?_)
                                                refine tl_step rfl (oj_val (y_move (fe_t rfl)) ?_)
                                                refine tl_step rfl (oj_val (y_mul fe_c (fe_t rfl) (by omega)) ?_)
                                                refine tl_step rfl (oj_val (y_add (fe_t rfl) (fe_t rfl) (by omega)) ?_)
                                                refine tl_step rfl (oj_val (y_move (fe_t rfl)) ?_)
                                                refine tl_step rfl (oj_val (y_mul (fe_t rfl) (fe_t rfl) (by omega)) ?_)
                                                refine tl_step rfl (oj_val (y_move (fe_t rfl)) ?_)
                                                refine tl_step rfl (oj_val (y_move (fe_t rfl)) ?_)
                                                refine tl_step rfl (oj_val (y_mul (fe_t rfl) (fe_t rfl) (by omega)) ?_)
                                                refine tl_step rfl (oj_val (y_lss (fe_t rfl) (fe_t rfl)) ?_)
                                                refine tl_nil ?_
                                                refine tx_then ?_
                                                refine tr_condp (fe_t rfl) (fun hq31 => ?_) (fun hq32 => ?_)
                                                · exfalso; omega
                                                · try (exfalso; omega)
                                                  all_goals
                                                    refine tr_skip ?_
                                                    refine tx_in ?_
                                                    apply tx_back2 (left.filter (· != (kc : Int))) (some (kc : Int))
                                                    · exact (cov_nil)
                                                    · repeat (first | exact over_nil | refine over_put rfl ?_ | refine over_drop rfl ?_)
                                                    · exact fun w h => h.pick [0, 1, 2, 3, 4] _ rfl (by decide)
                                                    · exact ⟨trivial, left_less hkl1⟩

theorem hier_walk {w : World} (hw : Bn.Gw w) (A : Option Addr) (n c : Nat) (ns : List (Int × Int)) (B m : Int) (hr : Rd w A (ns.flatMap c2)) (hn : ns.length = n) (hm : n ≤ 1048576) :
    Calls Tryd.prog 7 #[.slice A n c, (.int .i64 B), (.int .i64 m)] w fun e w' => e = .returned (.bool true) ∧ St w w' [] := by
  by_cases hx : B < 1 ∨ 1500 < B ∨ m < 1 ∨ 60 < m
  · exact hier_rng hw A n c ns B hr hn hm m hx
  · obtain ⟨many, rfl⟩ := Int.eq_ofNat_of_zero_le (show 0 ≤ m by omega)
    by_cases hwt : wrongT ns = 0
    · exact hier_ok hw A n c ns B hr hn hm many (by omega) (by omega) (by omega) hwt
    · exact hier_bad hw A n c ns B hr hn hm many (by omega) (by omega) (by omega) hwt

end Go.Proofs.YtfcpmcdlgkfolaaDoor.Hier
