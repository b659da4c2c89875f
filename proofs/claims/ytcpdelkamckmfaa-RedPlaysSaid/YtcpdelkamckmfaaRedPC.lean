/- red.Play, case C. -/
import Derived.Test.YtcpdelkamckmfaaRedA
namespace Go.Proofs.Ytcpdelkamckmfaa.Red
open Go.RowKit Go.Proofs.Ytcpdelkamckmfaa.E Go.Proofs.Ytcpdelkamckmfaa.Big Go.Proofs.Ytcpdelkamckmfaa.Frac

set_option maxRecDepth 100000 in
set_option maxHeartbeats 4000000 in
theorem play_C (tg iv : Int) (A : Option Addr) (n c : Nat) (l : List (Int × Int)) (w : World) (hr : Rd w A (l.flatMap c2)) (hn : l.length = n) (hg : 0 ≤ tg ∧ tg ≤ 1048576 ∧ 1 ≤ iv ∧ iv ≤ 1048576 ∧ n ≤ 400) (hf : ∀ k, k < n → Fine l k) :
    Calls Try.prog 54 #[(.int .i64 tg), (.int .i64 iv), .slice A n c] w fun e w' => ∃ q : Vs, q.n ≤ q.c ∧ e = .returned (.tuple #[.slice q.A n q.c, (.int .i64 0)]) ∧ St w w' [vec 4 1 (.slice q.A n q.c) n (bools (run tg iv l).2)] := by
  obtain ⟨h1, h2, h3, h4, h5⟩ := hg
  refine calls_tr Try.func54 Try.ntmps54 rfl rfl (St.refl _) ?_
  refine tr_seq ?_
  refine tr_region ?_
  refine tl_step rfl (oj_val (y_assign fe_c) ?_)
  refine tl_step rfl (oj_val (y_assign fe_c) ?_)
  refine tl_nil ?_
  refine tx_then ?_
  refine tr_seq ?_
  refine tr_seq ?_
  refine tr_region ?_
  refine tl_step rfl (oj_val (y_move (fe_t rfl)) ?_)
  refine tl_step rfl (oj_val (y_lss (fe_t rfl) fe_c) ?_)
  refine tl_step rfl (oj_val (y_move (fe_t rfl)) ?_)
  refine tl_splitp (d := 19) rfl (fun hq1 => ?_) (fun hq2 => ?_)
  · try (exfalso; first | omega | (simp_all; done))
    all_goals
      refine tl_skip rfl rfl rfl rfl ?_
      refine tl_skip rfl rfl rfl rfl ?_
      refine tl_step rfl (oj_val (y_pickt (fe_t rfl) fe_c) ?_)
      refine tl_step rfl (oj_val (y_move (fe_t rfl)) ?_)
      refine tl_skip rfl rfl rfl rfl ?_
      refine tl_skip rfl rfl rfl rfl ?_
      refine tl_step rfl (oj_val (y_pickt (fe_t rfl) fe_c) ?_)
      refine tl_step rfl (oj_val (y_move (fe_t rfl)) ?_)
      refine tl_skip rfl rfl rfl rfl ?_
      refine tl_skip rfl rfl rfl rfl ?_
      refine tl_step rfl (oj_val (y_pickt (fe_t rfl) fe_c) ?_)
      refine tl_step rfl (oj_val (y_move (fe_t rfl)) ?_)
      refine tl_skip rfl rfl rfl rfl ?_
      refine tl_skip rfl rfl rfl rfl ?_
      refine tl_skip rfl rfl rfl rfl ?_
      refine tl_step rfl (oj_val (y_pickt (fe_t rfl) fe_c) ?_)
      refine tl_nil ?_
      refine tx_then ?_
      exfalso; omega
  · try (exfalso; first | omega | (simp_all; done))
    all_goals
      refine tl_want rfl rfl rfl (oj_val (y_move (fe_t rfl)) ?_)
      refine tl_want rfl rfl rfl (oj_val (y_gtr (fe_t rfl) fe_c) ?_)
      refine tl_step rfl (oj_val (y_pickf (fe_t rfl) (fe_t rfl)) ?_)
      refine tl_step rfl (oj_val (y_move (fe_t rfl)) ?_)
      refine tl_splitp (d := 23) rfl (fun hq3 => ?_) (fun hq4 => ?_)
      · try (exfalso; first | omega | (simp_all; done))
        all_goals
          refine tl_skip rfl rfl rfl rfl ?_
          refine tl_skip rfl rfl rfl rfl ?_
          refine tl_step rfl (oj_val (y_pickt (fe_t rfl) fe_c) ?_)
          refine tl_step rfl (oj_val (y_move (fe_t rfl)) ?_)
          refine tl_skip rfl rfl rfl rfl ?_
          refine tl_skip rfl rfl rfl rfl ?_
          refine tl_step rfl (oj_val (y_pickt (fe_t rfl) fe_c) ?_)
          refine tl_step rfl (oj_val (y_move (fe_t rfl)) ?_)
          refine tl_skip rfl rfl rfl rfl ?_
          refine tl_skip rfl rfl rfl rfl ?_
          refine tl_skip rfl rfl rfl rfl ?_
          refine tl_step rfl (oj_val (y_pickt (fe_t rfl) fe_c) ?_)
          refine tl_nil ?_
          refine tx_then ?_
          exfalso; omega
      · try (exfalso; first | omega | (simp_all; done))
        all_goals
          refine tl_want rfl rfl rfl (oj_val (y_move (fe_t rfl)) ?_)
          refine tl_want rfl rfl rfl (oj_val (y_lss (fe_t rfl) fe_c) ?_)
          refine tl_step rfl (oj_val (y_pickf (fe_t rfl) (fe_t rfl)) ?_)
          refine tl_step rfl (oj_val (y_move (fe_t rfl)) ?_)
          refine tl_splitp (d := 27) rfl (fun hq5 => ?_) (fun hq6 => ?_)
          · try (exfalso; first | omega | (simp_all; done))
            all_goals
              refine tl_skip rfl rfl rfl rfl ?_
              refine tl_skip rfl rfl rfl rfl ?_
              refine tl_step rfl (oj_val (y_pickt (fe_t rfl) fe_c) ?_)
              refine tl_step rfl (oj_val (y_move (fe_t rfl)) ?_)
              refine tl_skip rfl rfl rfl rfl ?_
              refine tl_skip rfl rfl rfl rfl ?_
              refine tl_skip rfl rfl rfl rfl ?_
              refine tl_step rfl (oj_val (y_pickt (fe_t rfl) fe_c) ?_)
              refine tl_nil ?_
              refine tx_then ?_
              exfalso; omega
          · try (exfalso; first | omega | (simp_all; done))
            all_goals
              refine tl_want rfl rfl rfl (oj_val (y_move (fe_t rfl)) ?_)
              refine tl_want rfl rfl rfl (oj_val (y_gtr (fe_t rfl) fe_c) ?_)
              refine tl_step rfl (oj_val (y_pickf (fe_t rfl) (fe_t rfl)) ?_)
              refine tl_step rfl (oj_val (y_move (fe_t rfl)) ?_)
              refine tl_splitp (d := 31) rfl (fun hq7 => ?_) (fun hq8 => ?_)
              · try (exfalso; first | omega | (simp_all; done))
                all_goals
                  refine tl_skip rfl rfl rfl rfl ?_
                  refine tl_skip rfl rfl rfl rfl ?_
                  refine tl_skip rfl rfl rfl rfl ?_
                  refine tl_step rfl (oj_val (y_pickt (fe_t rfl) fe_c) ?_)
                  refine tl_nil ?_
                  refine tx_then ?_
                  exfalso; omega
              · try (exfalso; first | omega | (simp_all; done))
                all_goals
                  refine tl_want rfl rfl rfl (oj_val (y_move (fe_t rfl)) ?_)
                  refine tl_want rfl rfl rfl (oj_val (y_len Try.underlying71 (fe_t rfl)) ?_)
                  refine tl_want rfl rfl rfl (oj_val (y_gtr (fe_t rfl) fe_c) ?_)
                  refine tl_step rfl (oj_val (y_pickf (fe_t rfl) (fe_t rfl)) ?_)
                  refine tl_nil ?_
                  refine tx_then ?_
                  refine tr_condp (fe_t rfl) (fun hq9 => ?_) (fun hq10 => ?_)
                  · exfalso; omega
                  · try (exfalso; first | omega | (simp_all; done))
                    all_goals
                      refine tr_skip ?_
                      refine tx_then ?_
                      refine tr_seq ?_
                      refine tr_region ?_
                      refine tl_step rfl (oj_val ((fun {u0} hx hb => y_build (is := [0]) (vs := [u0]) (cs := [u0, .bool false, .int .i64 0, .int .i64 0]) rfl hx hb) (fel_cons (fe_c (v := .int .i64 (-1))) fel_nil) (by kernel_rfl)) ?_)
                      refine tl_step rfl (oj_alloc Try.zeroValue162 (fun sb => ?_))
                      refine tl_step rfl (oj_storeW 0 Try.sizeOf162 (fe_t rfl) (fe_t rfl) rfl rfl rfl rfl rfl (?_))
                      refine tl_nil ?_
                      refine tx_then ?_
                      refine tr_seq ?_
                      refine tr_region ?_
                      refine tl_step rfl (oj_val (y_assign fe_c) ?_)
                      refine tl_nil ?_
                      refine tx_then ?_
                      refine tr_seq ?_
                      refine tr_region ?_
                      refine tl_step rfl (oj_val (y_assign fe_c) ?_)
                      refine tl_nil ?_
                      refine tx_then ?_
                      refine tr_seq ?_
                      refine tr_seq ?_
                      refine tr_region ?_
                      refine tl_step rfl (oj_val (y_move (fe_t rfl)) ?_)
                      refine tl_step rfl (oj_val (y_len Try.underlying71 (fe_t rfl)) ?_)
                      refine tl_step rfl (oj_val (y_move fe_c) ?_)
                      refine tl_nil ?_
                      refine tx_then ?_
                      refine tr_block ?_
                      refine tr_add (r := vec 4 1 (.slice none 0 0) 0 []) vec_nil rfl ?_
                      refine tr_loop4 [6, 7, 9, 10, 12, 13, 14, 15, 16, 39, 40, 41, 42, 43, 44, 45, 46, 47, 48, 49, 50, 51, 52, 53, 54, 55, 56, 57, 58, 59, 60, 61, 62, 63, 64, 65, 66, 67, 68, 69, 70, 71, 72, 73, 74, 75, 76, 77, 78, 79, 80, 81, 82, 83, 84, 85, 86, 87, 88, 89, 90, 91, 92, 93, 94, 95, 96, 97, 98, 99, 100, 101, 102, 103, 104, 105, 106, 107, 108, 109, 110, 111, 112, 113, 114, 115, 116, 117, 118, 119, 120, 121, 122, 123, 124, 125, 126, 127] (fun (k : Nat) (s : RS × List Bool) (q : Vs) (la : Int) => [(39, .int .i64 (k : Int)), (9, .slice q.A q.n q.c), (10, .int .i64 la)]) 0 (fun (k : Nat) (s : RS × List Bool) (q : Vs) (la : Int) => [(1, blk sb [(.int .i64 s.1.since), .bool s.1.dr, (.int .i64 s.1.next), (.int .i64 ((s.1.many : Int)))]), (0, vec 4 1 (.slice q.A q.n q.c) q.n q.xs)]) (fun (k : Nat) (s : RS × List Bool) (q : Vs) (la : Int) => k ≤ n ∧ s = run tg iv (l.take k) ∧ q.n = k ∧ q.xs = bools s.2 ∧ (k = 0 → la = 0) ∧ (0 < k → ∀ h : k - 1 < l.length, la = l[k - 1].1) ∧ ∀ j, j < k → Fine l j) (fun (k : Nat) (s : RS × List Bool) (q : Vs) (la : Int) => n - k) (0) ((fresh, [])) (⟨none, 0, 0, []⟩ : Vs) (0) (cov_cons (by first | rfl | exact v_int (by omega) | exact v_bool (by simp [*])) (cov_cons (by first | rfl | exact v_int (by omega) | exact v_bool (by simp [*])) (cov_cons (by first | rfl | exact v_int (by omega) | exact v_bool (by simp [*])) (cov_nil)))) (fun w h => h) ?_ ?_
                      · try dsimp only
                        exact ⟨by omega, by simp [run], rfl, rfl, fun _ => rfl, fun h => by omega, fun j h => by omega⟩
                      intro k s q la hp
                      obtain ⟨hk, hs, hqn, hqx, hl0, hl1, hfi⟩ := hp
                      have hlen : s.2.length = k := by rw [hs, run_len, List.length_take]; omega
                      have hri := run_inv (tg := tg) (l := l) h3 h4 k (by omega) hfi
                      rw [← hs] at hri
                      refine tr_seq ?_
                      refine tr_region ?_
                      refine tl_step rfl (oj_val (y_lss (fe_t rfl) (fe_t rfl)) ?_)
                      refine tl_nil ?_
                      refine tx_then ?_
                      refine tr_seq ?_
                      refine tr_condp (fe_t rfl) (fun hq11 => ?_) (fun hq12 => ?_)
                      · try (exfalso; first | omega | (simp_all; done))
                        all_goals
                          refine tr_skip ?_
                          refine tx_then ?_
                          refine tr_seq ?_
                          refine tr_block ?_
                          refine tr_seq ?_
                          replace hl1 := fun h => hl1 h (by omega)
                          have hri0 := hri.s0
                          have hri1 := hri.s1
                          have hri2 := hri.n0
                          have hri3 := hri.n1
                          have hri4 := hri.m
                          refine tr_region ?_
                          refine tl_step rfl (oj_val (y_index Try.underlying71 Try.sizeOf164 (fe_t rfl) (fe_t rfl) (rdl_out hr) (lenF (fun _ => rfl) hn) (by decide) (by omega) rfl) ?_)
                          refine tl_step rfl (oj_val (y_ldA Try.isAgg164 Try.sizeOf164 (fe_t rfl) (rdl_out hr) rfl (by decide) (getF (c := c2) (l := l) (fun _ => rfl) (by omega))) ?_)
                          refine tl_step rfl (oj_alloc Try.zeroValue164 (fun xb => ?_))
                          refine tl_step rfl (oj_storeW 0 Try.sizeOf164 (fe_t rfl) (fe_t rfl) rfl rfl rfl rfl rfl (?_))
                          refine tl_nil ?_
                          refine tx_then ?_
                          refine tr_seq ?_
                          refine tr_seq ?_
                          refine tr_region ?_
                          refine tl_step rfl (oj_val (y_fieldAddr (td := 3) Try.underlying164 rfl rfl Try.sizeOf3 (o' := 0) rfl (fe_t rfl)) ?_)
                          refine tl_step rfl (oj_val (y_ldb 0 Try.isAgg3 (fe_t rfl) rfl rfl) ?_)
                          refine tl_step rfl (oj_val (y_move (fe_t rfl)) ?_)
                          refine tl_step rfl (oj_val (y_lss (fe_t rfl) (fe_t rfl)) ?_)
                          refine tl_step rfl (oj_val (y_move (fe_t rfl)) ?_)
                          refine tl_splitp (d := 47) rfl (fun hq13 => ?_) (fun hq14 => ?_)
                          · try (exfalso; first | omega | (simp_all; done))
                            all_goals
                              refine tl_skip rfl rfl rfl rfl ?_
                              refine tl_skip rfl rfl rfl rfl ?_
                              refine tl_skip rfl rfl rfl rfl ?_
                              refine tl_step rfl (oj_val (y_pickt (fe_t rfl) fe_c) ?_)
                              refine tl_step rfl (oj_val (y_move (fe_t rfl)) ?_)
                              refine tl_skip rfl rfl rfl rfl ?_
                              refine tl_skip rfl rfl rfl rfl ?_
                              refine tl_skip rfl rfl rfl rfl ?_
                              refine tl_step rfl (oj_val (y_pickt (fe_t rfl) fe_c) ?_)
                              refine tl_step rfl (oj_val (y_move (fe_t rfl)) ?_)
                              refine tl_skip rfl rfl rfl rfl ?_
                              refine tl_skip rfl rfl rfl rfl ?_
                              refine tl_skip rfl rfl rfl rfl ?_
                              refine tl_step rfl (oj_val (y_pickt (fe_t rfl) fe_c) ?_)
                              refine tl_nil ?_
                              refine tx_then ?_
                              exfalso; obtain ⟨_, g1, g2, g3, g4, g5⟩ := hf k (by omega); rcases Nat.eq_zero_or_pos k with h | h <;> first | (have := g1 h; have := hl0 h; omega) | (have := g2 h; have := hl1 h; omega)
                          · try (exfalso; first | omega | (simp_all; done))
                            all_goals
                              refine tl_want rfl rfl rfl (oj_val (y_fieldAddr (td := 3) Try.underlying164 rfl rfl Try.sizeOf3 (o' := 0) rfl (fe_t rfl)) ?_)
                              refine tl_want rfl rfl rfl (oj_val (y_ldb 0 Try.isAgg3 (fe_t rfl) rfl rfl) ?_)
                              refine tl_want rfl rfl rfl (oj_val (y_gtr (fe_t rfl) fe_c) ?_)
                              refine tl_step rfl (oj_val (y_pickf (fe_t rfl) (fe_t rfl)) ?_)
                              refine tl_step rfl (oj_val (y_move (fe_t rfl)) ?_)
                              refine tl_splitp (d := 52) rfl (fun hq15 => ?_) (fun hq16 => ?_)
                              · try (exfalso; first | omega | (simp_all; done))
                                all_goals
                                  refine tl_skip rfl rfl rfl rfl ?_
                                  refine tl_skip rfl rfl rfl rfl ?_
                                  refine tl_skip rfl rfl rfl rfl ?_
                                  refine tl_step rfl (oj_val (y_pickt (fe_t rfl) fe_c) ?_)
                                  refine tl_step rfl (oj_val (y_move (fe_t rfl)) ?_)
                                  refine tl_skip rfl rfl rfl rfl ?_
                                  refine tl_skip rfl rfl rfl rfl ?_
                                  refine tl_skip rfl rfl rfl rfl ?_
                                  refine tl_step rfl (oj_val (y_pickt (fe_t rfl) fe_c) ?_)
                                  refine tl_nil ?_
                                  refine tx_then ?_
                                  exfalso; obtain ⟨_, g1, g2, g3, g4, g5⟩ := hf k (by omega); rcases Nat.eq_zero_or_pos k with h | h <;> first | (have := g1 h; have := hl0 h; omega) | (have := g2 h; have := hl1 h; omega)
                              · try (exfalso; first | omega | (simp_all; done))
                                all_goals
                                  refine tl_want rfl rfl rfl (oj_val (y_fieldAddr (td := 3) Try.underlying164 rfl rfl Try.sizeOf3 (o' := 1) rfl (fe_t rfl)) ?_)
                                  refine tl_want rfl rfl rfl (oj_val (y_ldb 0 Try.isAgg3 (fe_t rfl) rfl rfl) ?_)
                                  refine tl_want rfl rfl rfl (oj_val (y_lss (fe_t rfl) fe_c) ?_)
                                  refine tl_step rfl (oj_val (y_pickf (fe_t rfl) (fe_t rfl)) ?_)
                                  refine tl_step rfl (oj_val (y_move (fe_t rfl)) ?_)
                                  refine tl_splitp (d := 57) rfl (fun hq17 => ?_) (fun hq18 => ?_)
                                  · try (exfalso; first | omega | (simp_all; done))
                                    all_goals
                                      refine tl_skip rfl rfl rfl rfl ?_
                                      refine tl_skip rfl rfl rfl rfl ?_
                                      refine tl_skip rfl rfl rfl rfl ?_
                                      refine tl_step rfl (oj_val (y_pickt (fe_t rfl) fe_c) ?_)
                                      refine tl_nil ?_
                                      refine tx_then ?_
                                      exfalso; obtain ⟨_, g1, g2, g3, g4, g5⟩ := hf k (by omega); rcases Nat.eq_zero_or_pos k with h | h <;> first | (have := g1 h; have := hl0 h; omega) | (have := g2 h; have := hl1 h; omega)
                                  · try (exfalso; first | omega | (simp_all; done))
                                    all_goals
                                      refine tl_want rfl rfl rfl (oj_val (y_fieldAddr (td := 3) Try.underlying164 rfl rfl Try.sizeOf3 (o' := 1) rfl (fe_t rfl)) ?_)
                                      refine tl_want rfl rfl rfl (oj_val (y_ldb 0 Try.isAgg3 (fe_t rfl) rfl rfl) ?_)
                                      refine tl_want rfl rfl rfl (oj_val (y_gtr (fe_t rfl) fe_c) ?_)
                                      refine tl_step rfl (oj_val (y_pickf (fe_t rfl) (fe_t rfl)) ?_)
                                      refine tl_nil ?_
                                      refine tx_then ?_
                                      refine tr_condp (fe_t rfl) (fun hq19 => ?_) (fun hq20 => ?_)
                                      · exfalso; obtain ⟨_, g1, g2, g3, g4, g5⟩ := hf k (by omega); rcases Nat.eq_zero_or_pos k with h | h <;> first | (have := g1 h; have := hl0 h; omega) | (have := g2 h; have := hl1 h; omega)
                                      · try (exfalso; first | omega | (simp_all; done))
                                        all_goals
                                          have hfk : Fine l k := ⟨by omega, fun h => by have := hl0 h; omega, fun h => by have := hl1 h; omega, by omega, by omega, by omega⟩
                                          have hpos := fine_pos (fun j hj => by by_cases h : j < k; exact hfi j h; obtain rfl : j = k := (by omega); exact hfk) (show k < l.length by omega)
                                          refine tr_skip ?_
                                          refine tx_then ?_
                                          refine tr_seq ?_
                                          refine tr_region ?_
                                          refine tl_step rfl (oj_val (y_fieldAddr (td := 3) Try.underlying164 rfl rfl Try.sizeOf3 (o' := 0) rfl (fe_t rfl)) ?_)
                                          refine tl_step rfl (oj_val (y_ldb 0 Try.isAgg3 (fe_t rfl) rfl rfl) ?_)
                                          refine tl_step rfl (oj_val (y_assign (fe_t rfl)) ?_)
                                          refine tl_nil ?_
                                          refine tx_then ?_
                                          refine tr_seq ?_
                                          refine tr_region ?_
                                          refine tl_step rfl (oj_val (y_assign fe_c) ?_)
                                          refine tl_nil ?_
                                          refine tx_then ?_
                                          refine tr_seq ?_
                                          refine tr_block ?_
                                          refine tr_seq ?_
                                          refine tr_region ?_
                                          refine tl_step rfl (oj_val (y_fieldAddr (td := 3) Try.underlying164 rfl rfl Try.sizeOf3 (o' := 1) rfl (fe_t rfl)) ?_)
                                          refine tl_step rfl (oj_val (y_ldb 0 Try.isAgg3 (fe_t rfl) rfl rfl) ?_)
                                          refine tl_step rfl (oj_val (y_move (fe_t rfl)) ?_)
                                          refine tl_step rfl (oj_val (y_lss (fe_t rfl) (fe_t rfl)) ?_)
                                          refine tl_step rfl (oj_val (y_assign (fe_t rfl)) ?_)
                                          refine tl_nil ?_
                                          refine tx_then ?_
                                          refine tr_condp (fe_t rfl) (fun hq21 => ?_) (fun hq22 => ?_)
                                          · try (exfalso; first | omega | (simp_all; done))
                                            all_goals
                                              refine tr_region ?_
                                              refine tl_step rfl (oj_val ((fun {u0} hx hb => y_build (is := [0]) (vs := [u0]) (cs := [u0, .bool false, .int .i64 0, .int .i64 0]) rfl hx hb) (fel_cons (fe_c (v := .int .i64 (-1))) fel_nil) (by kernel_rfl)) ?_)
                                              refine tl_step rfl (oj_storeW 2 Try.sizeOf162 (fe_t rfl) (fe_t rfl) rfl rfl rfl rfl rfl (?_))
                                              refine tl_nil ?_
                                              refine tx_in ?_
                                              refine tx_then ?_
                                              refine tr_region ?_
                                              refine tl_step rfl (oj_val (y_move (fe_t rfl)) ?_)
                                              refine tl_step rfl (oj_val (y_move (fe_t rfl)) ?_)
                                              refine tl_step rfl (oj_slice1 Try.underlying73 Try.sizeOf4 Try.zeroValue4 (fe_t rfl) (by decide) rfl (fun b1 => ?_))
                                              refine tl_step rfl (oj_append47 (i := 2) (s := 1) (z := (.bool false)) (bytes := 1) Try.underlying73 (by kernel_rfl) (fe_t rfl) (fe_t rfl) rfl (rdl_blk 0 rfl) rfl (by decide) (by first | exact oneI | exact oneF (fun _ => rfl) | exact fun u hu => List.all_eq_true.1 (show List.all _ (fun x => x.oneCell') = true from rfl) u hu | (intro u hu; revert u hu; simp [Value.oneCell'])) (by decide) ⟨by omega, by decide⟩ (fun Aa1 ca1 hca1 => ?_))
                                              refine tl_step rfl (oj_val (y_assign (fe_t rfl)) ?_)
                                              refine tl_nil ?_
                                              refine tx_in ?_
                                              refine tx_then ?_
                                              refine tr_region ?_
                                              refine tl_step rfl (oj_val (y_inc (fe_t rfl) fe_c (by omega)) ?_)
                                              refine tl_step rfl (oj_val (y_move (fe_t rfl)) ?_)
                                              refine tl_nil ?_
                                              apply tx_back4 (k + 1) ((fresh, s.2 ++ [false])) ((⟨_, _, _, _⟩ : Vs)) (l[k].1)
                                              · exact (cov_cons (by first | rfl | exact v_int (by omega) | exact v_bool (by simp [*])) (cov_cons (by first | rfl | exact v_int (by omega) | exact v_bool (by simp [*])) (cov_cons (by first | rfl | exact v_int (by omega) | exact v_bool (by simp [*])) (cov_nil))))
                                              · repeat (first | exact over_nil | refine over_put rfl ?_ | refine over_drop rfl ?_)
                                              · exact fun w h => h.pick [2, 3] _ rfl (by decide)
                                              · have hs2 : (fresh, s.2 ++ [false]) = run tg iv (l.take (k + 1)) := by
                                                  rw [run_take (by omega), ← hs, rnx, stp]
                                                  rw [if_pos (by omega)]
                                                refine ⟨⟨by omega, hs2, by simp; omega, by dsimp only; rw [hqx, bools_app]; rfl, fun h => by omega, fun _ _ => rfl, fun j hj => ?_⟩, by omega⟩
                                                by_cases hjk : j < k
                                                · exact hfi j hjk
                                                · obtain rfl : j = k := by omega
                                                  exact hfk
                                          · try (exfalso; first | omega | (simp_all; done))
                                            all_goals
                                              refine tr_seq ?_
                                              refine tr_region ?_
                                              refine tl_step rfl (oj_val (y_fieldAddr (td := 3) Try.underlying162 rfl rfl Try.sizeOf3 (o' := 0) rfl (fe_t rfl)) ?_)
                                              refine tl_step rfl (oj_val (y_ldb 2 Try.isAgg3 (fe_t rfl) rfl rfl) ?_)
                                              refine tl_step rfl (oj_val (y_lss (fe_t rfl) fe_c) ?_)
                                              refine tl_step rfl (oj_val (y_assign (fe_t rfl)) ?_)
                                              refine tl_nil ?_
                                              refine tx_then ?_
                                              refine tr_condp (fe_t rfl) (fun hq23 => ?_) (fun hq24 => ?_)
                                              · try (exfalso; first | omega | (simp_all; done))
                                                all_goals
                                                  refine tr_region ?_
                                                  refine tl_step rfl (oj_val (y_fieldAddr (td := 3) Try.underlying164 rfl rfl Try.sizeOf3 (o' := 0) rfl (fe_t rfl)) ?_)
                                                  refine tl_step rfl (oj_val (y_ldb 0 Try.isAgg3 (fe_t rfl) rfl rfl) ?_)
                                                  refine tl_step rfl (oj_val (y_fieldAddr (td := 3) Try.underlying162 rfl rfl Try.sizeOf3 (o' := 0) rfl (fe_t rfl)) ?_)
                                                  refine tl_step rfl (oj_store1 2 Try.sizeOf3 (fe_t rfl) (fe_t rfl) rfl rfl rfl rfl (?_))
                                                  refine tl_nil ?_
                                                  refine tx_in ?_
                                                  refine tx_then ?_
                                                  refine tr_region ?_
                                                  refine tl_step rfl (oj_val (y_move (fe_t rfl)) ?_)
                                                  refine tl_step rfl (oj_val (y_move (fe_t rfl)) ?_)
                                                  refine tl_step rfl (oj_slice1 Try.underlying73 Try.sizeOf4 Try.zeroValue4 (fe_t rfl) (by decide) rfl (fun b2 => ?_))
                                                  refine tl_step rfl (oj_append47 (i := 2) (s := 1) (z := (.bool false)) (bytes := 1) Try.underlying73 (by kernel_rfl) (fe_t rfl) (fe_t rfl) rfl (rdl_blk 0 rfl) rfl (by decide) (by first | exact oneI | exact oneF (fun _ => rfl) | exact fun u hu => List.all_eq_true.1 (show List.all _ (fun x => x.oneCell') = true from rfl) u hu | (intro u hu; revert u hu; simp [Value.oneCell'])) (by decide) ⟨by omega, by decide⟩ (fun Aa2 ca2 hca2 => ?_))
                                                  refine tl_step rfl (oj_val (y_assign (fe_t rfl)) ?_)
                                                  refine tl_nil ?_
                                                  refine tx_in ?_
                                                  refine tx_then ?_
                                                  refine tr_region ?_
                                                  refine tl_step rfl (oj_val (y_inc (fe_t rfl) fe_c (by omega)) ?_)
                                                  refine tl_step rfl (oj_val (y_move (fe_t rfl)) ?_)
                                                  refine tl_nil ?_
                                                  apply tx_back4 (k + 1) (((⟨l[k].1, s.1.dr, s.1.next, s.1.many⟩ : RS), s.2 ++ [false])) ((⟨_, _, _, _⟩ : Vs)) (l[k].1)
                                                  · exact (cov_cons (by first | rfl | exact v_int (by omega) | exact v_bool (by simp [*])) (cov_cons (by first | rfl | exact v_int (by omega) | exact v_bool (by simp [*])) (cov_cons (by first | rfl | exact v_int (by omega) | exact v_bool (by simp [*])) (cov_nil))))
                                                  · repeat (first | exact over_nil | refine over_put rfl ?_ | refine over_drop rfl ?_)
                                                  · exact fun w h => h.pick [2, 3] _ rfl (by decide)
                                                  · have hs2 : ((⟨l[k].1, s.1.dr, s.1.next, s.1.many⟩ : RS), s.2 ++ [false]) = run tg iv (l.take (k + 1)) := by
                                                      rw [run_take (by omega), ← hs, rnx, stp]
                                                      rw [if_neg (by omega), if_pos (by omega)]
                                                    refine ⟨⟨by omega, hs2, by simp; omega, by dsimp only; rw [hqx, bools_app]; rfl, fun h => by omega, fun _ _ => rfl, fun j hj => ?_⟩, by omega⟩
                                                    by_cases hjk : j < k
                                                    · exact hfi j hjk
                                                    · obtain rfl : j = k := by omega
                                                      exact hfk
                                              · try (exfalso; first | omega | (simp_all; done))
                                                all_goals
                                                  refine tr_seq ?_
                                                  refine tr_region ?_
                                                  refine tl_step rfl (oj_val (y_fieldAddr (td := 4) Try.underlying162 rfl rfl Try.sizeOf4 (o' := 1) rfl (fe_t rfl)) ?_)
                                                  refine tl_step rfl (oj_val (y_ldb 2 Try.isAgg4 (fe_t rfl) rfl rfl) ?_)
                                                  refine tl_step rfl (oj_val (y_not (fe_t rfl)) ?_)
                                                  refine tl_step rfl (oj_val (y_move (fe_t rfl)) ?_)
                                                  refine tl_split (d := 81) rfl (fun hq25 => ?_) (fun hq26 => ?_)
                                                  · try (exfalso; first | omega | (simp_all; done))
                                                    all_goals
                                                      refine tl_want rfl rfl rfl (oj_val (y_fieldAddr (td := 3) Try.underlying164 rfl rfl Try.sizeOf3 (o' := 0) rfl (fe_t rfl)) ?_)
                                                      refine tl_want rfl rfl rfl (oj_val (y_ldb 0 Try.isAgg3 (fe_t rfl) rfl rfl) ?_)
                                                      refine tl_want rfl rfl rfl (oj_val (y_fieldAddr (td := 3) Try.underlying162 rfl rfl Try.sizeOf3 (o' := 0) rfl (fe_t rfl)) ?_)
                                                      refine tl_want rfl rfl rfl (oj_val (y_ldb 2 Try.isAgg3 (fe_t rfl) rfl rfl) ?_)
                                                      refine tl_want rfl rfl rfl (oj_val (y_sub (fe_t rfl) (fe_t rfl) (by omega)) ?_)
                                                      refine tl_want rfl rfl rfl (oj_val (y_move (fe_t rfl)) ?_)
                                                      refine tl_want rfl rfl rfl (oj_val (y_geq (fe_t rfl) (fe_t rfl)) ?_)
                                                      refine tl_step rfl (oj_val (y_pickt (fe_t rfl) (fe_t rfl)) ?_)
                                                      refine tl_step rfl (oj_val (y_move (fe_t rfl)) ?_)
                                                      refine tl_splitp (d := 90) rfl (fun hq27 => ?_) (fun hq28 => ?_)
                                                      · try (exfalso; first | omega | (simp_all; done))
                                                        all_goals
                                                          refine tl_skip rfl rfl rfl rfl ?_
                                                          refine tl_skip rfl rfl rfl rfl ?_
                                                          refine tl_skip rfl rfl rfl rfl ?_
                                                          refine tl_skip rfl rfl rfl rfl ?_
                                                          refine tl_skip rfl rfl rfl rfl ?_
                                                          refine tl_skip rfl rfl rfl rfl ?_
                                                          refine tl_skip rfl rfl rfl rfl ?_
                                                          refine tl_skip rfl rfl rfl rfl ?_
                                                          refine tl_skip rfl rfl rfl rfl ?_
                                                          refine tl_step rfl (oj_val (y_pickt (fe_t rfl) fe_c) ?_)
                                                          refine tl_step rfl (oj_val (y_assign (fe_t rfl)) ?_)
                                                          refine tl_nil ?_
                                                          refine tx_then ?_
                                                          refine tr_condt (fe_t rfl) ?_
                                                          refine tr_seq ?_
                                                          refine tr_region ?_
                                                          refine tl_step rfl (oj_val (y_fieldAddr (td := 3) Try.underlying164 rfl rfl Try.sizeOf3 (o' := 0) rfl (fe_t rfl)) ?_)
                                                          refine tl_step rfl (oj_val (y_ldb 0 Try.isAgg3 (fe_t rfl) rfl rfl) ?_)
                                                          refine tl_step rfl (oj_val (y_assign (fe_t rfl)) ?_)
                                                          refine tl_nil ?_
                                                          refine tx_then ?_
                                                          refine tr_seq ?_
                                                          refine tr_seq ?_
                                                          refine tr_region ?_
                                                          refine tl_step rfl (oj_val (y_fieldAddr (td := 4) Try.underlying162 rfl rfl Try.sizeOf4 (o' := 1) rfl (fe_t rfl)) ?_)
                                                          refine tl_step rfl (oj_val (y_ldb 2 Try.isAgg4 (fe_t rfl) rfl rfl) ?_)
                                                          refine tl_nil ?_
                                                          refine tx_then ?_
                                                          refine tr_cond (fe_t rfl) (fun hq29 => ?_) (fun hq30 => ?_)
                                                          · try (exfalso; first | omega | (simp_all; done))
                                                            all_goals
                                                              refine tr_region ?_
                                                              refine tl_step rfl (oj_val (y_fieldAddr (td := 3) Try.underlying162 rfl rfl Try.sizeOf3 (o' := 2) rfl (fe_t rfl)) ?_)
                                                              refine tl_step rfl (oj_val (y_ldb 2 Try.isAgg3 (fe_t rfl) rfl rfl) ?_)
                                                              refine tl_step rfl (oj_val (y_assign (fe_t rfl)) ?_)
                                                              refine tl_nil ?_
                                                              refine tx_then ?_
                                                              refine tr_seq ?_
                                                              refine tr_region ?_
                                                              refine tl_step rfl (oj_val (y_assign fe_c) ?_)
                                                              refine tl_step rfl (oj_val (y_fieldAddr (td := 4) Try.underlying162 rfl rfl Try.sizeOf4 (o' := 1) rfl (fe_t rfl)) ?_)
                                                              refine tl_step rfl (oj_store1 2 Try.sizeOf4 (fe_t rfl) fe_c rfl rfl rfl rfl (?_))
                                                              refine tl_nil ?_
                                                              refine tx_then ?_
                                                              refine tr_seq ?_
                                                              refine tr_region ?_
                                                              refine tl_step rfl (oj_val (y_fieldAddr (td := 3) Try.underlying162 rfl rfl Try.sizeOf3 (o' := 3) rfl (fe_t rfl)) ?_)
                                                              refine tl_step rfl (oj_val (y_ldb 2 Try.isAgg3 (fe_t rfl) rfl rfl) ?_)
                                                              refine tl_step rfl (oj_val (y_inc (fe_t rfl) fe_c (by omega)) ?_)
                                                              refine tl_step rfl (oj_val (y_fieldAddr (td := 3) Try.underlying162 rfl rfl Try.sizeOf3 (o' := 3) rfl (fe_t rfl)) ?_)
                                                              refine tl_step rfl (oj_store1 2 Try.sizeOf3 (fe_t rfl) (fe_t rfl) rfl rfl rfl rfl (?_))
                                                              refine tl_nil ?_
                                                              refine tx_then ?_
                                                              refine tr_seq ?_
                                                              have hgb := gapv_bd h3 h4 (show 1 ≤ s.1.many + 1 by omega)
                                                              refine tr_region ?_
                                                              refine tl_step rfl (oj_val (y_move (fe_t rfl)) ?_)
                                                              refine tl_step rfl (oj_val (y_fieldAddr (td := 3) Try.underlying162 rfl rfl Try.sizeOf3 (o' := 3) rfl (fe_t rfl)) ?_)
                                                              refine tl_step rfl (oj_val (y_ldb 2 Try.isAgg3 (fe_t rfl) rfl rfl) ?_)
                                                              refine tl_step rfl (oj_callv Try.call53 fe_f (fel_cons (fe_t rfl) (fel_cons (fe_t rfl) fel_nil)) (fun w' hS => gapE (n := s.1.many + 1) h3 h4 (by omega) (by omega) w') ?_)
                                                              refine tl_step rfl (oj_val (y_move (fe_t rfl)) ?_)
                                                              refine tl_step rfl (oj_val (y_extract (fe_t rfl) rfl) ?_)
                                                              refine tl_step rfl (oj_val (y_extract (fe_t rfl) rfl) ?_)
                                                              refine tl_step rfl (oj_val (y_assign (fe_t rfl)) ?_)
                                                              refine tl_step rfl (oj_val (y_assign (fe_t rfl)) ?_)
                                                              refine tl_nil ?_
                                                              refine tx_then ?_
                                                              refine tr_region ?_
                                                              refine tl_step rfl (oj_val (y_move (fe_t rfl)) ?_)
                                                              refine tl_step rfl (oj_val (y_move (fe_t rfl)) ?_)
                                                              refine tl_step rfl (oj_val (y_add (fe_t rfl) (fe_t rfl) (by omega)) ?_)
                                                              refine tl_step rfl (oj_val (y_fieldAddr (td := 3) Try.underlying162 rfl rfl Try.sizeOf3 (o' := 2) rfl (fe_t rfl)) ?_)
                                                              refine tl_step rfl (oj_store1 2 Try.sizeOf3 (fe_t rfl) (fe_t rfl) rfl rfl rfl rfl (?_))
                                                              refine tl_nil ?_
                                                              refine tx_in ?_
                                                              refine tx_then ?_
                                                              refine tr_region ?_
                                                              refine tl_step rfl (oj_val (y_move (fe_t rfl)) ?_)
                                                              refine tl_step rfl (oj_val (y_move (fe_t rfl)) ?_)
                                                              refine tl_step rfl (oj_slice1 Try.underlying73 Try.sizeOf4 Try.zeroValue4 (fe_t rfl) (by decide) rfl (fun b3 => ?_))
                                                              refine tl_step rfl (oj_append47 (i := 2) (s := 1) (z := (.bool false)) (bytes := 1) Try.underlying73 (by kernel_rfl) (fe_t rfl) (fe_t rfl) rfl (rdl_blk 0 rfl) rfl (by decide) (by first | exact oneI | exact oneF (fun _ => rfl) | exact fun u hu => List.all_eq_true.1 (show List.all _ (fun x => x.oneCell') = true from rfl) u hu | (intro u hu; revert u hu; simp [Value.oneCell'])) (by decide) ⟨by omega, by decide⟩ (fun Aa3 ca3 hca3 => ?_))
                                                              refine tl_step rfl (oj_val (y_assign (fe_t rfl)) ?_)
                                                              refine tl_nil ?_
                                                              refine tx_in ?_
                                                              refine tx_then ?_
                                                              refine tr_region ?_
                                                              refine tl_step rfl (oj_val (y_inc (fe_t rfl) fe_c (by omega)) ?_)
                                                              refine tl_step rfl (oj_val (y_move (fe_t rfl)) ?_)
                                                              refine tl_nil ?_
                                                              apply tx_back4 (k + 1) (((⟨s.1.since, true, s.1.next + gapv iv (s.1.many + 1), s.1.many + 1⟩ : RS), s.2 ++ [true])) ((⟨_, _, _, _⟩ : Vs)) (l[k].1)
                                                              · exact (cov_cons (by first | rfl | exact v_int (by omega) | exact v_bool (by simp [*])) (cov_cons (by first | rfl | exact v_int (by omega) | exact v_bool (by simp [*])) (cov_cons (by first | rfl | exact v_int (by omega) | exact v_bool (by simp [*])) (cov_nil))))
                                                              · repeat (first | exact over_nil | refine over_put rfl ?_ | refine over_drop rfl ?_)
                                                              · exact fun w h => h.pick [2, 3] _ rfl (by decide)
                                                              · have hs2 : ((⟨s.1.since, true, s.1.next + gapv iv (s.1.many + 1), s.1.many + 1⟩ : RS), s.2 ++ [true]) = run tg iv (l.take (k + 1)) := by
                                                                  rw [run_take (by omega), ← hs, rnx, stp]
                                                                  rw [if_neg (by omega), if_neg (by omega), if_neg (by rintro ⟨h1, _⟩; simp_all), if_pos ⟨by simp_all, by omega⟩]
                                                                refine ⟨⟨by omega, hs2, by simp; omega, by dsimp only; rw [hqx, bools_app]; rfl, fun h => by omega, fun _ _ => rfl, fun j hj => ?_⟩, by omega⟩
                                                                by_cases hjk : j < k
                                                                · exact hfi j hjk
                                                                · obtain rfl : j = k := by omega
                                                                  exact hfk
                                                          · try (exfalso; first | omega | (simp_all; done))
                                                            all_goals
                                                              refine tr_skip ?_
                                                              refine tx_then ?_
                                                              refine tr_seq ?_
                                                              refine tr_region ?_
                                                              refine tl_step rfl (oj_val (y_assign fe_c) ?_)
                                                              refine tl_step rfl (oj_val (y_fieldAddr (td := 4) Try.underlying162 rfl rfl Try.sizeOf4 (o' := 1) rfl (fe_t rfl)) ?_)
                                                              refine tl_step rfl (oj_store1 2 Try.sizeOf4 (fe_t rfl) fe_c rfl rfl rfl rfl (?_))
                                                              refine tl_nil ?_
                                                              refine tx_then ?_
                                                              refine tr_seq ?_
                                                              refine tr_region ?_
                                                              refine tl_step rfl (oj_val (y_fieldAddr (td := 3) Try.underlying162 rfl rfl Try.sizeOf3 (o' := 3) rfl (fe_t rfl)) ?_)
                                                              refine tl_step rfl (oj_val (y_ldb 2 Try.isAgg3 (fe_t rfl) rfl rfl) ?_)
                                                              refine tl_step rfl (oj_val (y_inc (fe_t rfl) fe_c (by omega)) ?_)
                                                              refine tl_step rfl (oj_val (y_fieldAddr (td := 3) Try.underlying162 rfl rfl Try.sizeOf3 (o' := 3) rfl (fe_t rfl)) ?_)
                                                              refine tl_step rfl (oj_store1 2 Try.sizeOf3 (fe_t rfl) (fe_t rfl) rfl rfl rfl rfl (?_))
                                                              refine tl_nil ?_
                                                              refine tx_then ?_
                                                              refine tr_seq ?_
                                                              have hgb := gapv_bd h3 h4 (show 1 ≤ s.1.many + 1 by omega)
                                                              refine tr_region ?_
                                                              refine tl_step rfl (oj_val (y_move (fe_t rfl)) ?_)
                                                              refine tl_step rfl (oj_val (y_fieldAddr (td := 3) Try.underlying162 rfl rfl Try.sizeOf3 (o' := 3) rfl (fe_t rfl)) ?_)
                                                              refine tl_step rfl (oj_val (y_ldb 2 Try.isAgg3 (fe_t rfl) rfl rfl) ?_)
                                                              refine tl_step rfl (oj_callv Try.call53 fe_f (fel_cons (fe_t rfl) (fel_cons (fe_t rfl) fel_nil)) (fun w' hS => gapE (n := s.1.many + 1) h3 h4 (by omega) (by omega) w') ?_)
                                                              refine tl_step rfl (oj_val (y_move (fe_t rfl)) ?_)
                                                              refine tl_step rfl (oj_val (y_extract (fe_t rfl) rfl) ?_)
                                                              refine tl_step rfl (oj_val (y_extract (fe_t rfl) rfl) ?_)
                                                              refine tl_step rfl (oj_val (y_assign (fe_t rfl)) ?_)
                                                              refine tl_step rfl (oj_val (y_assign (fe_t rfl)) ?_)
                                                              refine tl_nil ?_
                                                              refine tx_then ?_
                                                              refine tr_region ?_
                                                              refine tl_step rfl (oj_val (y_move (fe_t rfl)) ?_)
                                                              refine tl_step rfl (oj_val (y_move (fe_t rfl)) ?_)
                                                              refine tl_step rfl (oj_val (y_add (fe_t rfl) (fe_t rfl) (by omega)) ?_)
                                                              refine tl_step rfl (oj_val (y_fieldAddr (td := 3) Try.underlying162 rfl rfl Try.sizeOf3 (o' := 2) rfl (fe_t rfl)) ?_)
                                                              refine tl_step rfl (oj_store1 2 Try.sizeOf3 (fe_t rfl) (fe_t rfl) rfl rfl rfl rfl (?_))
                                                              refine tl_nil ?_
                                                              refine tx_in ?_
                                                              refine tx_then ?_
                                                              refine tr_region ?_
                                                              refine tl_step rfl (oj_val (y_move (fe_t rfl)) ?_)
                                                              refine tl_step rfl (oj_val (y_move (fe_t rfl)) ?_)
                                                              refine tl_step rfl (oj_slice1 Try.underlying73 Try.sizeOf4 Try.zeroValue4 (fe_t rfl) (by decide) rfl (fun b4 => ?_))
                                                              refine tl_step rfl (oj_append47 (i := 2) (s := 1) (z := (.bool false)) (bytes := 1) Try.underlying73 (by kernel_rfl) (fe_t rfl) (fe_t rfl) rfl (rdl_blk 0 rfl) rfl (by decide) (by first | exact oneI | exact oneF (fun _ => rfl) | exact fun u hu => List.all_eq_true.1 (show List.all _ (fun x => x.oneCell') = true from rfl) u hu | (intro u hu; revert u hu; simp [Value.oneCell'])) (by decide) ⟨by omega, by decide⟩ (fun Aa4 ca4 hca4 => ?_))
                                                              refine tl_step rfl (oj_val (y_assign (fe_t rfl)) ?_)
                                                              refine tl_nil ?_
                                                              refine tx_in ?_
                                                              refine tx_then ?_
                                                              refine tr_region ?_
                                                              refine tl_step rfl (oj_val (y_inc (fe_t rfl) fe_c (by omega)) ?_)
                                                              refine tl_step rfl (oj_val (y_move (fe_t rfl)) ?_)
                                                              refine tl_nil ?_
                                                              apply tx_back4 (k + 1) (((⟨s.1.since, true, l[k].1 + gapv iv (s.1.many + 1), s.1.many + 1⟩ : RS), s.2 ++ [true])) ((⟨_, _, _, _⟩ : Vs)) (l[k].1)
                                                              · exact (cov_cons (by first | rfl | exact v_int (by omega) | exact v_bool (by simp [*])) (cov_cons (by first | rfl | exact v_int (by omega) | exact v_bool (by simp [*])) (cov_cons (by first | rfl | exact v_int (by omega) | exact v_bool (by simp [*])) (cov_nil))))
                                                              · repeat (first | exact over_nil | refine over_put rfl ?_ | refine over_drop rfl ?_)
                                                              · exact fun w h => h.pick [2, 3] _ rfl (by decide)
                                                              · have hs2 : ((⟨s.1.since, true, l[k].1 + gapv iv (s.1.many + 1), s.1.many + 1⟩ : RS), s.2 ++ [true]) = run tg iv (l.take (k + 1)) := by
                                                                  rw [run_take (by omega), ← hs, rnx, stp]
                                                                  rw [if_neg (by omega), if_neg (by omega), if_pos ⟨by simp_all, by omega⟩]
                                                                refine ⟨⟨by omega, hs2, by simp; omega, by dsimp only; rw [hqx, bools_app]; rfl, fun h => by omega, fun _ _ => rfl, fun j hj => ?_⟩, by omega⟩
                                                                by_cases hjk : j < k
                                                                · exact hfi j hjk
                                                                · obtain rfl : j = k := by omega
                                                                  exact hfk
                                                      · try (exfalso; first | omega | (simp_all; done))
                                                        all_goals
                                                          refine tl_want rfl rfl rfl (oj_val (y_fieldAddr (td := 4) Try.underlying162 rfl rfl Try.sizeOf4 (o' := 1) rfl (fe_t rfl)) ?_)
                                                          refine tl_want rfl rfl rfl (oj_val (y_ldb 2 Try.isAgg4 (fe_t rfl) rfl rfl) ?_)
                                                          refine tl_want rfl rfl rfl (oj_val (y_move (fe_t rfl)) ?_)
                                                          refine tl_split (d := 93) rfl (fun hq31 => ?_) (fun hq32 => ?_)
                                                          · try (exfalso; first | omega | (simp_all; done))
                                                            all_goals
                                                              refine tl_want rfl rfl rfl (oj_val (y_fieldAddr (td := 3) Try.underlying164 rfl rfl Try.sizeOf3 (o' := 0) rfl (fe_t rfl)) ?_)
                                                              refine tl_want rfl rfl rfl (oj_val (y_ldb 0 Try.isAgg3 (fe_t rfl) rfl rfl) ?_)
                                                              refine tl_want rfl rfl rfl (oj_val (y_fieldAddr (td := 3) Try.underlying162 rfl rfl Try.sizeOf3 (o' := 2) rfl (fe_t rfl)) ?_)
                                                              refine tl_want rfl rfl rfl (oj_val (y_ldb 2 Try.isAgg3 (fe_t rfl) rfl rfl) ?_)
                                                              refine tl_want rfl rfl rfl (oj_val (y_geq (fe_t rfl) (fe_t rfl)) ?_)
                                                              refine tl_want rfl rfl rfl (oj_val (y_pickt (fe_t rfl) (fe_t rfl)) ?_)
                                                              refine tl_step rfl (oj_val (y_pickf (fe_t rfl) (fe_t rfl)) ?_)
                                                              refine tl_step rfl (oj_val (y_assign (fe_t rfl)) ?_)
                                                              refine tl_nil ?_
                                                              refine tx_then ?_
                                                              refine tr_condp (fe_t rfl) (fun hq33 => ?_) (fun hq34 => ?_)
                                                              · try (exfalso; first | omega | (simp_all; done))
                                                                all_goals
                                                                  refine tr_seq ?_
                                                                  refine tr_region ?_
                                                                  refine tl_step rfl (oj_val (y_fieldAddr (td := 3) Try.underlying164 rfl rfl Try.sizeOf3 (o' := 0) rfl (fe_t rfl)) ?_)
                                                                  refine tl_step rfl (oj_val (y_ldb 0 Try.isAgg3 (fe_t rfl) rfl rfl) ?_)
                                                                  refine tl_step rfl (oj_val (y_assign (fe_t rfl)) ?_)
                                                                  refine tl_nil ?_
                                                                  refine tx_then ?_
                                                                  refine tr_seq ?_
                                                                  refine tr_seq ?_
                                                                  refine tr_region ?_
                                                                  refine tl_step rfl (oj_val (y_fieldAddr (td := 4) Try.underlying162 rfl rfl Try.sizeOf4 (o' := 1) rfl (fe_t rfl)) ?_)
                                                                  refine tl_step rfl (oj_val (y_ldb 2 Try.isAgg4 (fe_t rfl) rfl rfl) ?_)
                                                                  refine tl_nil ?_
                                                                  refine tx_then ?_
                                                                  refine tr_cond (fe_t rfl) (fun hq35 => ?_) (fun hq36 => ?_)
                                                                  · try (exfalso; first | omega | (simp_all; done))
                                                                    all_goals
                                                                      refine tr_region ?_
                                                                      refine tl_step rfl (oj_val (y_fieldAddr (td := 3) Try.underlying162 rfl rfl Try.sizeOf3 (o' := 2) rfl (fe_t rfl)) ?_)
                                                                      refine tl_step rfl (oj_val (y_ldb 2 Try.isAgg3 (fe_t rfl) rfl rfl) ?_)
                                                                      refine tl_step rfl (oj_val (y_assign (fe_t rfl)) ?_)
                                                                      refine tl_nil ?_
                                                                      refine tx_then ?_
                                                                      refine tr_seq ?_
                                                                      refine tr_region ?_
                                                                      refine tl_step rfl (oj_val (y_assign fe_c) ?_)
                                                                      refine tl_step rfl (oj_val (y_fieldAddr (td := 4) Try.underlying162 rfl rfl Try.sizeOf4 (o' := 1) rfl (fe_t rfl)) ?_)
                                                                      refine tl_step rfl (oj_store1 2 Try.sizeOf4 (fe_t rfl) fe_c rfl rfl rfl rfl (?_))
                                                                      refine tl_nil ?_
                                                                      refine tx_then ?_
                                                                      refine tr_seq ?_
                                                                      refine tr_region ?_
                                                                      refine tl_step rfl (oj_val (y_fieldAddr (td := 3) Try.underlying162 rfl rfl Try.sizeOf3 (o' := 3) rfl (fe_t rfl)) ?_)
                                                                      refine tl_step rfl (oj_val (y_ldb 2 Try.isAgg3 (fe_t rfl) rfl rfl) ?_)
                                                                      refine tl_step rfl (oj_val (y_inc (fe_t rfl) fe_c (by omega)) ?_)
                                                                      refine tl_step rfl (oj_val (y_fieldAddr (td := 3) Try.underlying162 rfl rfl Try.sizeOf3 (o' := 3) rfl (fe_t rfl)) ?_)
                                                                      refine tl_step rfl (oj_store1 2 Try.sizeOf3 (fe_t rfl) (fe_t rfl) rfl rfl rfl rfl (?_))
                                                                      refine tl_nil ?_
                                                                      refine tx_then ?_
                                                                      refine tr_seq ?_
                                                                      have hgb := gapv_bd h3 h4 (show 1 ≤ s.1.many + 1 by omega)
                                                                      refine tr_region ?_
                                                                      refine tl_step rfl (oj_val (y_move (fe_t rfl)) ?_)
                                                                      refine tl_step rfl (oj_val (y_fieldAddr (td := 3) Try.underlying162 rfl rfl Try.sizeOf3 (o' := 3) rfl (fe_t rfl)) ?_)
                                                                      refine tl_step rfl (oj_val (y_ldb 2 Try.isAgg3 (fe_t rfl) rfl rfl) ?_)
                                                                      refine tl_step rfl (oj_callv Try.call53 fe_f (fel_cons (fe_t rfl) (fel_cons (fe_t rfl) fel_nil)) (fun w' hS => gapE (n := s.1.many + 1) h3 h4 (by omega) (by omega) w') ?_)
                                                                      refine tl_step rfl (oj_val (y_move (fe_t rfl)) ?_)
                                                                      refine tl_step rfl (oj_val (y_extract (fe_t rfl) rfl) ?_)
                                                                      refine tl_step rfl (oj_val (y_extract (fe_t rfl) rfl) ?_)
                                                                      refine tl_step rfl (oj_val (y_assign (fe_t rfl)) ?_)
                                                                      refine tl_step rfl (oj_val (y_assign (fe_t rfl)) ?_)
                                                                      refine tl_nil ?_
                                                                      refine tx_then ?_
                                                                      refine tr_region ?_
                                                                      refine tl_step rfl (oj_val (y_move (fe_t rfl)) ?_)
                                                                      refine tl_step rfl (oj_val (y_move (fe_t rfl)) ?_)
                                                                      refine tl_step rfl (oj_val (y_add (fe_t rfl) (fe_t rfl) (by omega)) ?_)
                                                                      refine tl_step rfl (oj_val (y_fieldAddr (td := 3) Try.underlying162 rfl rfl Try.sizeOf3 (o' := 2) rfl (fe_t rfl)) ?_)
                                                                      refine tl_step rfl (oj_store1 2 Try.sizeOf3 (fe_t rfl) (fe_t rfl) rfl rfl rfl rfl (?_))
                                                                      refine tl_nil ?_
                                                                      refine tx_in ?_
                                                                      refine tx_then ?_
                                                                      refine tr_region ?_
                                                                      refine tl_step rfl (oj_val (y_move (fe_t rfl)) ?_)
                                                                      refine tl_step rfl (oj_val (y_move (fe_t rfl)) ?_)
                                                                      refine tl_step rfl (oj_slice1 Try.underlying73 Try.sizeOf4 Try.zeroValue4 (fe_t rfl) (by decide) rfl (fun b5 => ?_))
                                                                      refine tl_step rfl (oj_append47 (i := 2) (s := 1) (z := (.bool false)) (bytes := 1) Try.underlying73 (by kernel_rfl) (fe_t rfl) (fe_t rfl) rfl (rdl_blk 0 rfl) rfl (by decide) (by first | exact oneI | exact oneF (fun _ => rfl) | exact fun u hu => List.all_eq_true.1 (show List.all _ (fun x => x.oneCell') = true from rfl) u hu | (intro u hu; revert u hu; simp [Value.oneCell'])) (by decide) ⟨by omega, by decide⟩ (fun Aa5 ca5 hca5 => ?_))
                                                                      refine tl_step rfl (oj_val (y_assign (fe_t rfl)) ?_)
                                                                      refine tl_nil ?_
                                                                      refine tx_in ?_
                                                                      refine tx_then ?_
                                                                      refine tr_region ?_
                                                                      refine tl_step rfl (oj_val (y_inc (fe_t rfl) fe_c (by omega)) ?_)
                                                                      refine tl_step rfl (oj_val (y_move (fe_t rfl)) ?_)
                                                                      refine tl_nil ?_
                                                                      apply tx_back4 (k + 1) (((⟨s.1.since, true, s.1.next + gapv iv (s.1.many + 1), s.1.many + 1⟩ : RS), s.2 ++ [true])) ((⟨_, _, _, _⟩ : Vs)) (l[k].1)
                                                                      · exact (cov_cons (by first | rfl | exact v_int (by omega) | exact v_bool (by simp [*])) (cov_cons (by first | rfl | exact v_int (by omega) | exact v_bool (by simp [*])) (cov_cons (by first | rfl | exact v_int (by omega) | exact v_bool (by simp [*])) (cov_nil))))
                                                                      · repeat (first | exact over_nil | refine over_put rfl ?_ | refine over_drop rfl ?_)
                                                                      · exact fun w h => h.pick [2, 3] _ rfl (by decide)
                                                                      · have hs2 : ((⟨s.1.since, true, s.1.next + gapv iv (s.1.many + 1), s.1.many + 1⟩ : RS), s.2 ++ [true]) = run tg iv (l.take (k + 1)) := by
                                                                          rw [run_take (by omega), ← hs, rnx, stp]
                                                                          rw [if_neg (by omega), if_neg (by omega), if_neg (by rintro ⟨h1, _⟩; simp_all), if_pos ⟨by simp_all, by omega⟩]
                                                                        refine ⟨⟨by omega, hs2, by simp; omega, by dsimp only; rw [hqx, bools_app]; rfl, fun h => by omega, fun _ _ => rfl, fun j hj => ?_⟩, by omega⟩
                                                                        by_cases hjk : j < k
                                                                        · exact hfi j hjk
                                                                        · obtain rfl : j = k := by omega
                                                                          exact hfk
                                                                  · try (exfalso; first | omega | (simp_all; done))
                                                                    all_goals
                                                                      refine tr_skip ?_
                                                                      refine tx_then ?_
                                                                      refine tr_seq ?_
                                                                      refine tr_region ?_
                                                                      refine tl_step rfl (oj_val (y_assign fe_c) ?_)
                                                                      refine tl_step rfl (oj_val (y_fieldAddr (td := 4) Try.underlying162 rfl rfl Try.sizeOf4 (o' := 1) rfl (fe_t rfl)) ?_)
                                                                      refine tl_step rfl (oj_store1 2 Try.sizeOf4 (fe_t rfl) fe_c rfl rfl rfl rfl (?_))
                                                                      refine tl_nil ?_
                                                                      refine tx_then ?_
                                                                      refine tr_seq ?_
                                                                      refine tr_region ?_
                                                                      refine tl_step rfl (oj_val (y_fieldAddr (td := 3) Try.underlying162 rfl rfl Try.sizeOf3 (o' := 3) rfl (fe_t rfl)) ?_)
                                                                      refine tl_step rfl (oj_val (y_ldb 2 Try.isAgg3 (fe_t rfl) rfl rfl) ?_)
                                                                      refine tl_step rfl (oj_val (y_inc (fe_t rfl) fe_c (by omega)) ?_)
                                                                      refine tl_step rfl (oj_val (y_fieldAddr (td := 3) Try.underlying162 rfl rfl Try.sizeOf3 (o' := 3) rfl (fe_t rfl)) ?_)
                                                                      refine tl_step rfl (oj_store1 2 Try.sizeOf3 (fe_t rfl) (fe_t rfl) rfl rfl rfl rfl (?_))
                                                                      refine tl_nil ?_
                                                                      refine tx_then ?_
                                                                      refine tr_seq ?_
                                                                      have hgb := gapv_bd h3 h4 (show 1 ≤ s.1.many + 1 by omega)
                                                                      refine tr_region ?_
                                                                      refine tl_step rfl (oj_val (y_move (fe_t rfl)) ?_)
                                                                      refine tl_step rfl (oj_val (y_fieldAddr (td := 3) Try.underlying162 rfl rfl Try.sizeOf3 (o' := 3) rfl (fe_t rfl)) ?_)
                                                                      refine tl_step rfl (oj_val (y_ldb 2 Try.isAgg3 (fe_t rfl) rfl rfl) ?_)
                                                                      refine tl_step rfl (oj_callv Try.call53 fe_f (fel_cons (fe_t rfl) (fel_cons (fe_t rfl) fel_nil)) (fun w' hS => gapE (n := s.1.many + 1) h3 h4 (by omega) (by omega) w') ?_)
                                                                      refine tl_step rfl (oj_val (y_move (fe_t rfl)) ?_)
                                                                      refine tl_step rfl (oj_val (y_extract (fe_t rfl) rfl) ?_)
                                                                      refine tl_step rfl (oj_val (y_extract (fe_t rfl) rfl) ?_)
                                                                      refine tl_step rfl (oj_val (y_assign (fe_t rfl)) ?_)
                                                                      refine tl_step rfl (oj_val (y_assign (fe_t rfl)) ?_)
                                                                      refine tl_nil ?_
                                                                      refine tx_then ?_
                                                                      refine tr_region ?_
                                                                      refine tl_step rfl (oj_val (y_move (fe_t rfl)) ?_)
                                                                      refine tl_step rfl (oj_val (y_move (fe_t rfl)) ?_)
                                                                      refine tl_step rfl (oj_val (y_add (fe_t rfl) (fe_t rfl) (by omega)) ?_)
                                                                      refine tl_step rfl (oj_val (y_fieldAddr (td := 3) Try.underlying162 rfl rfl Try.sizeOf3 (o' := 2) rfl (fe_t rfl)) ?_)
                                                                      refine tl_step rfl (oj_store1 2 Try.sizeOf3 (fe_t rfl) (fe_t rfl) rfl rfl rfl rfl (?_))
                                                                      refine tl_nil ?_
                                                                      refine tx_in ?_
                                                                      refine tx_then ?_
                                                                      refine tr_region ?_
                                                                      refine tl_step rfl (oj_val (y_move (fe_t rfl)) ?_)
                                                                      refine tl_step rfl (oj_val (y_move (fe_t rfl)) ?_)
                                                                      refine tl_step rfl (oj_slice1 Try.underlying73 Try.sizeOf4 Try.zeroValue4 (fe_t rfl) (by decide) rfl (fun b6 => ?_))
                                                                      refine tl_step rfl (oj_append47 (i := 2) (s := 1) (z := (.bool false)) (bytes := 1) Try.underlying73 (by kernel_rfl) (fe_t rfl) (fe_t rfl) rfl (rdl_blk 0 rfl) rfl (by decide) (by first | exact oneI | exact oneF (fun _ => rfl) | exact fun u hu => List.all_eq_true.1 (show List.all _ (fun x => x.oneCell') = true from rfl) u hu | (intro u hu; revert u hu; simp [Value.oneCell'])) (by decide) ⟨by omega, by decide⟩ (fun Aa6 ca6 hca6 => ?_))
                                                                      refine tl_step rfl (oj_val (y_assign (fe_t rfl)) ?_)
                                                                      refine tl_nil ?_
                                                                      refine tx_in ?_
                                                                      refine tx_then ?_
                                                                      refine tr_region ?_
                                                                      refine tl_step rfl (oj_val (y_inc (fe_t rfl) fe_c (by omega)) ?_)
                                                                      refine tl_step rfl (oj_val (y_move (fe_t rfl)) ?_)
                                                                      refine tl_nil ?_
                                                                      apply tx_back4 (k + 1) (((⟨s.1.since, true, l[k].1 + gapv iv (s.1.many + 1), s.1.many + 1⟩ : RS), s.2 ++ [true])) ((⟨_, _, _, _⟩ : Vs)) (l[k].1)
                                                                      · exact (cov_cons (by first | rfl | exact v_int (by omega) | exact v_bool (by simp [*])) (cov_cons (by first | rfl | exact v_int (by omega) | exact v_bool (by simp [*])) (cov_cons (by first | rfl | exact v_int (by omega) | exact v_bool (by simp [*])) (cov_nil))))
                                                                      · repeat (first | exact over_nil | refine over_put rfl ?_ | refine over_drop rfl ?_)
                                                                      · exact fun w h => h.pick [2, 3] _ rfl (by decide)
                                                                      · have hs2 : ((⟨s.1.since, true, l[k].1 + gapv iv (s.1.many + 1), s.1.many + 1⟩ : RS), s.2 ++ [true]) = run tg iv (l.take (k + 1)) := by
                                                                          rw [run_take (by omega), ← hs, rnx, stp]
                                                                          rw [if_neg (by omega), if_neg (by omega), if_pos ⟨by simp_all, by omega⟩]
                                                                        refine ⟨⟨by omega, hs2, by simp; omega, by dsimp only; rw [hqx, bools_app]; rfl, fun h => by omega, fun _ _ => rfl, fun j hj => ?_⟩, by omega⟩
                                                                        by_cases hjk : j < k
                                                                        · exact hfi j hjk
                                                                        · obtain rfl : j = k := by omega
                                                                          exact hfk
                                                              · try (exfalso; first | omega | (simp_all; done))
                                                                all_goals
                                                                  refine tr_skip ?_
                                                                  refine tx_in ?_
                                                                  refine tx_then ?_
                                                                  refine tr_region ?_
                                                                  refine tl_step rfl (oj_val (y_move (fe_t rfl)) ?_)
                                                                  refine tl_step rfl (oj_val (y_move (fe_t rfl)) ?_)
                                                                  refine tl_step rfl (oj_slice1 Try.underlying73 Try.sizeOf4 Try.zeroValue4 (fe_t rfl) (by decide) rfl (fun b7 => ?_))
                                                                  refine tl_step rfl (oj_append47 (i := 2) (s := 1) (z := (.bool false)) (bytes := 1) Try.underlying73 (by kernel_rfl) (fe_t rfl) (fe_t rfl) rfl (rdl_blk 0 rfl) rfl (by decide) (by first | exact oneI | exact oneF (fun _ => rfl) | exact fun u hu => List.all_eq_true.1 (show List.all _ (fun x => x.oneCell') = true from rfl) u hu | (intro u hu; revert u hu; simp [Value.oneCell'])) (by decide) ⟨by omega, by decide⟩ (fun Aa7 ca7 hca7 => ?_))
                                                                  refine tl_step rfl (oj_val (y_assign (fe_t rfl)) ?_)
                                                                  refine tl_nil ?_
                                                                  refine tx_in ?_
                                                                  refine tx_then ?_
                                                                  refine tr_region ?_
                                                                  refine tl_step rfl (oj_val (y_inc (fe_t rfl) fe_c (by omega)) ?_)
                                                                  refine tl_step rfl (oj_val (y_move (fe_t rfl)) ?_)
                                                                  refine tl_nil ?_
                                                                  apply tx_back4 (k + 1) ((s.1, s.2 ++ [false])) ((⟨_, _, _, _⟩ : Vs)) (l[k].1)
                                                                  · exact (cov_cons (by first | rfl | exact v_int (by omega) | exact v_bool (by simp [*])) (cov_cons (by first | rfl | exact v_int (by omega) | exact v_bool (by simp [*])) (cov_cons (by first | rfl | exact v_int (by omega) | exact v_bool (by simp [*])) (cov_nil))))
                                                                  · repeat (first | exact over_nil | refine over_put rfl ?_ | refine over_drop rfl ?_)
                                                                  · exact fun w h => h.pick [2, 3] _ rfl (by decide)
                                                                  · have hs2 : (s.1, s.2 ++ [false]) = run tg iv (l.take (k + 1)) := by
                                                                      rw [run_take (by omega), ← hs, rnx, stp]
                                                                      rw [if_neg (by omega), if_neg (by omega), if_neg (by rintro ⟨h1, h2⟩; first | omega | simp_all), if_neg (by rintro ⟨h1, h2⟩; first | omega | simp_all)]
                                                                    refine ⟨⟨by omega, hs2, by simp; omega, by dsimp only; rw [hqx, bools_app]; rfl, fun h => by omega, fun _ _ => rfl, fun j hj => ?_⟩, by omega⟩
                                                                    by_cases hjk : j < k
                                                                    · exact hfi j hjk
                                                                    · obtain rfl : j = k := by omega
                                                                      exact hfk
                                                          · try (exfalso; first | omega | (simp_all; done))
                                                            all_goals
                                                              refine tl_skip rfl rfl rfl rfl ?_
                                                              refine tl_skip rfl rfl rfl rfl ?_
                                                              refine tl_skip rfl rfl rfl rfl ?_
                                                              refine tl_skip rfl rfl rfl rfl ?_
                                                              refine tl_skip rfl rfl rfl rfl ?_
                                                              refine tl_want rfl rfl rfl (oj_val (y_pickf (fe_t rfl) fe_c) ?_)
                                                              refine tl_step rfl (oj_val (y_pickf (fe_t rfl) (fe_t rfl)) ?_)
                                                              refine tl_step rfl (oj_val (y_assign (fe_t rfl)) ?_)
                                                              refine tl_nil ?_
                                                              refine tx_then ?_
                                                              refine tr_condf (fe_t rfl) ?_
                                                              refine tr_skip ?_
                                                              refine tx_in ?_
                                                              refine tx_then ?_
                                                              refine tr_region ?_
                                                              refine tl_step rfl (oj_val (y_move (fe_t rfl)) ?_)
                                                              refine tl_step rfl (oj_val (y_move (fe_t rfl)) ?_)
                                                              refine tl_step rfl (oj_slice1 Try.underlying73 Try.sizeOf4 Try.zeroValue4 (fe_t rfl) (by decide) rfl (fun b8 => ?_))
                                                              refine tl_step rfl (oj_append47 (i := 2) (s := 1) (z := (.bool false)) (bytes := 1) Try.underlying73 (by kernel_rfl) (fe_t rfl) (fe_t rfl) rfl (rdl_blk 0 rfl) rfl (by decide) (by first | exact oneI | exact oneF (fun _ => rfl) | exact fun u hu => List.all_eq_true.1 (show List.all _ (fun x => x.oneCell') = true from rfl) u hu | (intro u hu; revert u hu; simp [Value.oneCell'])) (by decide) ⟨by omega, by decide⟩ (fun Aa8 ca8 hca8 => ?_))
                                                              refine tl_step rfl (oj_val (y_assign (fe_t rfl)) ?_)
                                                              refine tl_nil ?_
                                                              refine tx_in ?_
                                                              refine tx_then ?_
                                                              refine tr_region ?_
                                                              refine tl_step rfl (oj_val (y_inc (fe_t rfl) fe_c (by omega)) ?_)
                                                              refine tl_step rfl (oj_val (y_move (fe_t rfl)) ?_)
                                                              refine tl_nil ?_
                                                              apply tx_back4 (k + 1) ((s.1, s.2 ++ [false])) ((⟨_, _, _, _⟩ : Vs)) (l[k].1)
                                                              · exact (cov_cons (by first | rfl | exact v_int (by omega) | exact v_bool (by simp [*])) (cov_cons (by first | rfl | exact v_int (by omega) | exact v_bool (by simp [*])) (cov_cons (by first | rfl | exact v_int (by omega) | exact v_bool (by simp [*])) (cov_nil))))
                                                              · repeat (first | exact over_nil | refine over_put rfl ?_ | refine over_drop rfl ?_)
                                                              · exact fun w h => h.pick [2, 3] _ rfl (by decide)
                                                              · have hs2 : (s.1, s.2 ++ [false]) = run tg iv (l.take (k + 1)) := by
                                                                  rw [run_take (by omega), ← hs, rnx, stp]
                                                                  rw [if_neg (by omega), if_neg (by omega), if_neg (by rintro ⟨h1, h2⟩; first | omega | simp_all), if_neg (by rintro ⟨h1, h2⟩; first | omega | simp_all)]
                                                                refine ⟨⟨by omega, hs2, by simp; omega, by dsimp only; rw [hqx, bools_app]; rfl, fun h => by omega, fun _ _ => rfl, fun j hj => ?_⟩, by omega⟩
                                                                by_cases hjk : j < k
                                                                · exact hfi j hjk
                                                                · obtain rfl : j = k := by omega
                                                                  exact hfk
                                                  · try (exfalso; first | omega | (simp_all; done))
                                                    all_goals
                                                      refine tl_skip rfl rfl rfl rfl ?_
                                                      refine tl_skip rfl rfl rfl rfl ?_
                                                      refine tl_skip rfl rfl rfl rfl ?_
                                                      refine tl_skip rfl rfl rfl rfl ?_
                                                      refine tl_skip rfl rfl rfl rfl ?_
                                                      refine tl_skip rfl rfl rfl rfl ?_
                                                      refine tl_skip rfl rfl rfl rfl ?_
                                                      refine tl_step rfl (oj_val (y_pickf (fe_t rfl) fe_c) ?_)
                                                      refine tl_step rfl (oj_val (y_move (fe_t rfl)) ?_)
                                                      refine tl_want rfl rfl rfl (oj_val (y_fieldAddr (td := 4) Try.underlying162 rfl rfl Try.sizeOf4 (o' := 1) rfl (fe_t rfl)) ?_)
                                                      refine tl_want rfl rfl rfl (oj_val (y_ldb 2 Try.isAgg4 (fe_t rfl) rfl rfl) ?_)
                                                      refine tl_want rfl rfl rfl (oj_val (y_move (fe_t rfl)) ?_)
                                                      refine tl_split (d := 93) rfl (fun hq37 => ?_) (fun hq38 => ?_)
                                                      · try (exfalso; first | omega | (simp_all; done))
                                                        all_goals
                                                          refine tl_want rfl rfl rfl (oj_val (y_fieldAddr (td := 3) Try.underlying164 rfl rfl Try.sizeOf3 (o' := 0) rfl (fe_t rfl)) ?_)
                                                          refine tl_want rfl rfl rfl (oj_val (y_ldb 0 Try.isAgg3 (fe_t rfl) rfl rfl) ?_)
                                                          refine tl_want rfl rfl rfl (oj_val (y_fieldAddr (td := 3) Try.underlying162 rfl rfl Try.sizeOf3 (o' := 2) rfl (fe_t rfl)) ?_)
                                                          refine tl_want rfl rfl rfl (oj_val (y_ldb 2 Try.isAgg3 (fe_t rfl) rfl rfl) ?_)
                                                          refine tl_want rfl rfl rfl (oj_val (y_geq (fe_t rfl) (fe_t rfl)) ?_)
                                                          refine tl_want rfl rfl rfl (oj_val (y_pickt (fe_t rfl) (fe_t rfl)) ?_)
                                                          refine tl_step rfl (oj_val (y_pickf (fe_t rfl) (fe_t rfl)) ?_)
                                                          refine tl_step rfl (oj_val (y_assign (fe_t rfl)) ?_)
                                                          refine tl_nil ?_
                                                          refine tx_then ?_
                                                          refine tr_condp (fe_t rfl) (fun hq39 => ?_) (fun hq40 => ?_)
                                                          · try (exfalso; first | omega | (simp_all; done))
                                                            all_goals
                                                              refine tr_seq ?_
                                                              refine tr_region ?_
                                                              refine tl_step rfl (oj_val (y_fieldAddr (td := 3) Try.underlying164 rfl rfl Try.sizeOf3 (o' := 0) rfl (fe_t rfl)) ?_)
                                                              refine tl_step rfl (oj_val (y_ldb 0 Try.isAgg3 (fe_t rfl) rfl rfl) ?_)
                                                              refine tl_step rfl (oj_val (y_assign (fe_t rfl)) ?_)
                                                              refine tl_nil ?_
                                                              refine tx_then ?_
                                                              refine tr_seq ?_
                                                              refine tr_seq ?_
                                                              refine tr_region ?_
                                                              refine tl_step rfl (oj_val (y_fieldAddr (td := 4) Try.underlying162 rfl rfl Try.sizeOf4 (o' := 1) rfl (fe_t rfl)) ?_)
                                                              refine tl_step rfl (oj_val (y_ldb 2 Try.isAgg4 (fe_t rfl) rfl rfl) ?_)
                                                              refine tl_nil ?_
                                                              refine tx_then ?_
                                                              refine tr_cond (fe_t rfl) (fun hq41 => ?_) (fun hq42 => ?_)
                                                              · try (exfalso; first | omega | (simp_all; done))
                                                                all_goals
                                                                  refine tr_region ?_
                                                                  refine tl_step rfl (oj_val (y_fieldAddr (td := 3) Try.underlying162 rfl rfl Try.sizeOf3 (o' := 2) rfl (fe_t rfl)) ?_)
                                                                  refine tl_step rfl (oj_val (y_ldb 2 Try.isAgg3 (fe_t rfl) rfl rfl) ?_)
                                                                  refine tl_step rfl (oj_val (y_assign (fe_t rfl)) ?_)
                                                                  refine tl_nil ?_
                                                                  refine tx_then ?_
                                                                  refine tr_seq ?_
                                                                  refine tr_region ?_
                                                                  refine tl_step rfl (oj_val (y_assign fe_c) ?_)
                                                                  refine tl_step rfl (oj_val (y_fieldAddr (td := 4) Try.underlying162 rfl rfl Try.sizeOf4 (o' := 1) rfl (fe_t rfl)) ?_)
                                                                  refine tl_step rfl (oj_store1 2 Try.sizeOf4 (fe_t rfl) fe_c rfl rfl rfl rfl (?_))
                                                                  refine tl_nil ?_
                                                                  refine tx_then ?_
                                                                  refine tr_seq ?_
                                                                  refine tr_region ?_
                                                                  refine tl_step rfl (oj_val (y_fieldAddr (td := 3) Try.underlying162 rfl rfl Try.sizeOf3 (o' := 3) rfl (fe_t rfl)) ?_)
                                                                  refine tl_step rfl (oj_val (y_ldb 2 Try.isAgg3 (fe_t rfl) rfl rfl) ?_)
                                                                  refine tl_step rfl (oj_val (y_inc (fe_t rfl) fe_c (by omega)) ?_)
                                                                  refine tl_step rfl (oj_val (y_fieldAddr (td := 3) Try.underlying162 rfl rfl Try.sizeOf3 (o' := 3) rfl (fe_t rfl)) ?_)
                                                                  refine tl_step rfl (oj_store1 2 Try.sizeOf3 (fe_t rfl) (fe_t rfl) rfl rfl rfl rfl (?_))
                                                                  refine tl_nil ?_
                                                                  refine tx_then ?_
                                                                  refine tr_seq ?_
                                                                  have hgb := gapv_bd h3 h4 (show 1 ≤ s.1.many + 1 by omega)
                                                                  refine tr_region ?_
                                                                  refine tl_step rfl (oj_val (y_move (fe_t rfl)) ?_)
                                                                  refine tl_step rfl (oj_val (y_fieldAddr (td := 3) Try.underlying162 rfl rfl Try.sizeOf3 (o' := 3) rfl (fe_t rfl)) ?_)
                                                                  refine tl_step rfl (oj_val (y_ldb 2 Try.isAgg3 (fe_t rfl) rfl rfl) ?_)
                                                                  refine tl_step rfl (oj_callv Try.call53 fe_f (fel_cons (fe_t rfl) (fel_cons (fe_t rfl) fel_nil)) (fun w' hS => gapE (n := s.1.many + 1) h3 h4 (by omega) (by omega) w') ?_)
                                                                  refine tl_step rfl (oj_val (y_move (fe_t rfl)) ?_)
                                                                  refine tl_step rfl (oj_val (y_extract (fe_t rfl) rfl) ?_)
                                                                  refine tl_step rfl (oj_val (y_extract (fe_t rfl) rfl) ?_)
                                                                  refine tl_step rfl (oj_val (y_assign (fe_t rfl)) ?_)
                                                                  refine tl_step rfl (oj_val (y_assign (fe_t rfl)) ?_)
                                                                  refine tl_nil ?_
                                                                  refine tx_then ?_
                                                                  refine tr_region ?_
                                                                  refine tl_step rfl (oj_val (y_move (fe_t rfl)) ?_)
                                                                  refine tl_step rfl (oj_val (y_move (fe_t rfl)) ?_)
                                                                  refine tl_step rfl (oj_val (y_add (fe_t rfl) (fe_t rfl) (by omega)) ?_)
                                                                  refine tl_step rfl (oj_val (y_fieldAddr (td := 3) Try.underlying162 rfl rfl Try.sizeOf3 (o' := 2) rfl (fe_t rfl)) ?_)
                                                                  refine tl_step rfl (oj_store1 2 Try.sizeOf3 (fe_t rfl) (fe_t rfl) rfl rfl rfl rfl (?_))
                                                                  refine tl_nil ?_
                                                                  refine tx_in ?_
                                                                  refine tx_then ?_
                                                                  refine tr_region ?_
                                                                  refine tl_step rfl (oj_val (y_move (fe_t rfl)) ?_)
                                                                  refine tl_step rfl (oj_val (y_move (fe_t rfl)) ?_)
                                                                  refine tl_step rfl (oj_slice1 Try.underlying73 Try.sizeOf4 Try.zeroValue4 (fe_t rfl) (by decide) rfl (fun b9 => ?_))
                                                                  refine tl_step rfl (oj_append47 (i := 2) (s := 1) (z := (.bool false)) (bytes := 1) Try.underlying73 (by kernel_rfl) (fe_t rfl) (fe_t rfl) rfl (rdl_blk 0 rfl) rfl (by decide) (by first | exact oneI | exact oneF (fun _ => rfl) | exact fun u hu => List.all_eq_true.1 (show List.all _ (fun x => x.oneCell') = true from rfl) u hu | (intro u hu; revert u hu; simp [Value.oneCell'])) (by decide) ⟨by omega, by decide⟩ (fun Aa9 ca9 hca9 => ?_))
                                                                  refine tl_step rfl (oj_val (y_assign (fe_t rfl)) ?_)
                                                                  refine tl_nil ?_
                                                                  refine tx_in ?_
                                                                  refine tx_then ?_
                                                                  refine tr_region ?_
                                                                  refine tl_step rfl (oj_val (y_inc (fe_t rfl) fe_c (by omega)) ?_)
                                                                  refine tl_step rfl (oj_val (y_move (fe_t rfl)) ?_)
                                                                  refine tl_nil ?_
                                                                  apply tx_back4 (k + 1) (((⟨s.1.since, true, s.1.next + gapv iv (s.1.many + 1), s.1.many + 1⟩ : RS), s.2 ++ [true])) ((⟨_, _, _, _⟩ : Vs)) (l[k].1)
                                                                  · exact (cov_cons (by first | rfl | exact v_int (by omega) | exact v_bool (by simp [*])) (cov_cons (by first | rfl | exact v_int (by omega) | exact v_bool (by simp [*])) (cov_cons (by first | rfl | exact v_int (by omega) | exact v_bool (by simp [*])) (cov_nil))))
                                                                  · repeat (first | exact over_nil | refine over_put rfl ?_ | refine over_drop rfl ?_)
                                                                  · exact fun w h => h.pick [2, 3] _ rfl (by decide)
                                                                  · have hs2 : ((⟨s.1.since, true, s.1.next + gapv iv (s.1.many + 1), s.1.many + 1⟩ : RS), s.2 ++ [true]) = run tg iv (l.take (k + 1)) := by
                                                                      rw [run_take (by omega), ← hs, rnx, stp]
                                                                      rw [if_neg (by omega), if_neg (by omega), if_neg (by rintro ⟨h1, _⟩; simp_all), if_pos ⟨by simp_all, by omega⟩]
                                                                    refine ⟨⟨by omega, hs2, by simp; omega, by dsimp only; rw [hqx, bools_app]; rfl, fun h => by omega, fun _ _ => rfl, fun j hj => ?_⟩, by omega⟩
                                                                    by_cases hjk : j < k
                                                                    · exact hfi j hjk
                                                                    · obtain rfl : j = k := by omega
                                                                      exact hfk
                                                              · try (exfalso; first | omega | (simp_all; done))
                                                                all_goals
                                                                  refine tr_skip ?_
                                                                  refine tx_then ?_
                                                                  refine tr_seq ?_
                                                                  refine tr_region ?_
                                                                  refine tl_step rfl (oj_val (y_assign fe_c) ?_)
                                                                  refine tl_step rfl (oj_val (y_fieldAddr (td := 4) Try.underlying162 rfl rfl Try.sizeOf4 (o' := 1) rfl (fe_t rfl)) ?_)
                                                                  refine tl_step rfl (oj_store1 2 Try.sizeOf4 (fe_t rfl) fe_c rfl rfl rfl rfl (?_))
                                                                  refine tl_nil ?_
                                                                  refine tx_then ?_
                                                                  refine tr_seq ?_
                                                                  refine tr_region ?_
                                                                  refine tl_step rfl (oj_val (y_fieldAddr (td := 3) Try.underlying162 rfl rfl Try.sizeOf3 (o' := 3) rfl (fe_t rfl)) ?_)
                                                                  refine tl_step rfl (oj_val (y_ldb 2 Try.isAgg3 (fe_t rfl) rfl rfl) ?_)
                                                                  refine tl_step rfl (oj_val (y_inc (fe_t rfl) fe_c (by omega)) ?_)
                                                                  refine tl_step rfl (oj_val (y_fieldAddr (td := 3) Try.underlying162 rfl rfl Try.sizeOf3 (o' := 3) rfl (fe_t rfl)) ?_)
                                                                  refine tl_step rfl (oj_store1 2 Try.sizeOf3 (fe_t rfl) (fe_t rfl) rfl rfl rfl rfl (?_))
                                                                  refine tl_nil ?_
                                                                  refine tx_then ?_
                                                                  refine tr_seq ?_
                                                                  have hgb := gapv_bd h3 h4 (show 1 ≤ s.1.many + 1 by omega)
                                                                  refine tr_region ?_
                                                                  refine tl_step rfl (oj_val (y_move (fe_t rfl)) ?_)
                                                                  refine tl_step rfl (oj_val (y_fieldAddr (td := 3) Try.underlying162 rfl rfl Try.sizeOf3 (o' := 3) rfl (fe_t rfl)) ?_)
                                                                  refine tl_step rfl (oj_val (y_ldb 2 Try.isAgg3 (fe_t rfl) rfl rfl) ?_)
                                                                  refine tl_step rfl (oj_callv Try.call53 fe_f (fel_cons (fe_t rfl) (fel_cons (fe_t rfl) fel_nil)) (fun w' hS => gapE (n := s.1.many + 1) h3 h4 (by omega) (by omega) w') ?_)
                                                                  refine tl_step rfl (oj_val (y_move (fe_t rfl)) ?_)
                                                                  refine tl_step rfl (oj_val (y_extract (fe_t rfl) rfl) ?_)
                                                                  refine tl_step rfl (oj_val (y_extract (fe_t rfl) rfl) ?_)
                                                                  refine tl_step rfl (oj_val (y_assign (fe_t rfl)) ?_)
                                                                  refine tl_step rfl (oj_val (y_assign (fe_t rfl)) ?_)
                                                                  refine tl_nil ?_
                                                                  refine tx_then ?_
                                                                  refine tr_region ?_
                                                                  refine tl_step rfl (oj_val (y_move (fe_t rfl)) ?_)
                                                                  refine tl_step rfl (oj_val (y_move (fe_t rfl)) ?_)
                                                                  refine tl_step rfl (oj_val (y_add (fe_t rfl) (fe_t rfl) (by omega)) ?_)
                                                                  refine tl_step rfl (oj_val (y_fieldAddr (td := 3) Try.underlying162 rfl rfl Try.sizeOf3 (o' := 2) rfl (fe_t rfl)) ?_)
                                                                  refine tl_step rfl (oj_store1 2 Try.sizeOf3 (fe_t rfl) (fe_t rfl) rfl rfl rfl rfl (?_))
                                                                  refine tl_nil ?_
                                                                  refine tx_in ?_
                                                                  refine tx_then ?_
                                                                  refine tr_region ?_
                                                                  refine tl_step rfl (oj_val (y_move (fe_t rfl)) ?_)
                                                                  refine tl_step rfl (oj_val (y_move (fe_t rfl)) ?_)
                                                                  refine tl_step rfl (oj_slice1 Try.underlying73 Try.sizeOf4 Try.zeroValue4 (fe_t rfl) (by decide) rfl (fun b10 => ?_))
                                                                  refine tl_step rfl (oj_append47 (i := 2) (s := 1) (z := (.bool false)) (bytes := 1) Try.underlying73 (by kernel_rfl) (fe_t rfl) (fe_t rfl) rfl (rdl_blk 0 rfl) rfl (by decide) (by first | exact oneI | exact oneF (fun _ => rfl) | exact fun u hu => List.all_eq_true.1 (show List.all _ (fun x => x.oneCell') = true from rfl) u hu | (intro u hu; revert u hu; simp [Value.oneCell'])) (by decide) ⟨by omega, by decide⟩ (fun Aa10 ca10 hca10 => ?_))
                                                                  refine tl_step rfl (oj_val (y_assign (fe_t rfl)) ?_)
                                                                  refine tl_nil ?_
                                                                  refine tx_in ?_
                                                                  refine tx_then ?_
                                                                  refine tr_region ?_
                                                                  refine tl_step rfl (oj_val (y_inc (fe_t rfl) fe_c (by omega)) ?_)
                                                                  refine tl_step rfl (oj_val (y_move (fe_t rfl)) ?_)
                                                                  refine tl_nil ?_
                                                                  apply tx_back4 (k + 1) (((⟨s.1.since, true, l[k].1 + gapv iv (s.1.many + 1), s.1.many + 1⟩ : RS), s.2 ++ [true])) ((⟨_, _, _, _⟩ : Vs)) (l[k].1)
                                                                  · exact (cov_cons (by first | rfl | exact v_int (by omega) | exact v_bool (by simp [*])) (cov_cons (by first | rfl | exact v_int (by omega) | exact v_bool (by simp [*])) (cov_cons (by first | rfl | exact v_int (by omega) | exact v_bool (by simp [*])) (cov_nil))))
                                                                  · repeat (first | exact over_nil | refine over_put rfl ?_ | refine over_drop rfl ?_)
                                                                  · exact fun w h => h.pick [2, 3] _ rfl (by decide)
                                                                  · have hs2 : ((⟨s.1.since, true, l[k].1 + gapv iv (s.1.many + 1), s.1.many + 1⟩ : RS), s.2 ++ [true]) = run tg iv (l.take (k + 1)) := by
                                                                      rw [run_take (by omega), ← hs, rnx, stp]
                                                                      rw [if_neg (by omega), if_neg (by omega), if_pos ⟨by simp_all, by omega⟩]
                                                                    refine ⟨⟨by omega, hs2, by simp; omega, by dsimp only; rw [hqx, bools_app]; rfl, fun h => by omega, fun _ _ => rfl, fun j hj => ?_⟩, by omega⟩
                                                                    by_cases hjk : j < k
                                                                    · exact hfi j hjk
                                                                    · obtain rfl : j = k := by omega
                                                                      exact hfk
                                                          · try (exfalso; first | omega | (simp_all; done))
                                                            all_goals
                                                              refine tr_skip ?_
                                                              refine tx_in ?_
                                                              refine tx_then ?_
                                                              refine tr_region ?_
                                                              refine tl_step rfl (oj_val (y_move (fe_t rfl)) ?_)
                                                              refine tl_step rfl (oj_val (y_move (fe_t rfl)) ?_)
                                                              refine tl_step rfl (oj_slice1 Try.underlying73 Try.sizeOf4 Try.zeroValue4 (fe_t rfl) (by decide) rfl (fun b11 => ?_))
                                                              refine tl_step rfl (oj_append47 (i := 2) (s := 1) (z := (.bool false)) (bytes := 1) Try.underlying73 (by kernel_rfl) (fe_t rfl) (fe_t rfl) rfl (rdl_blk 0 rfl) rfl (by decide) (by first | exact oneI | exact oneF (fun _ => rfl) | exact fun u hu => List.all_eq_true.1 (show List.all _ (fun x => x.oneCell') = true from rfl) u hu | (intro u hu; revert u hu; simp [Value.oneCell'])) (by decide) ⟨by omega, by decide⟩ (fun Aa11 ca11 hca11 => ?_))
                                                              refine tl_step rfl (oj_val (y_assign (fe_t rfl)) ?_)
                                                              refine tl_nil ?_
                                                              refine tx_in ?_
                                                              refine tx_then ?_
                                                              refine tr_region ?_
                                                              refine tl_step rfl (oj_val (y_inc (fe_t rfl) fe_c (by omega)) ?_)
                                                              refine tl_step rfl (oj_val (y_move (fe_t rfl)) ?_)
                                                              refine tl_nil ?_
                                                              apply tx_back4 (k + 1) ((s.1, s.2 ++ [false])) ((⟨_, _, _, _⟩ : Vs)) (l[k].1)
                                                              · exact (cov_cons (by first | rfl | exact v_int (by omega) | exact v_bool (by simp [*])) (cov_cons (by first | rfl | exact v_int (by omega) | exact v_bool (by simp [*])) (cov_cons (by first | rfl | exact v_int (by omega) | exact v_bool (by simp [*])) (cov_nil))))
                                                              · repeat (first | exact over_nil | refine over_put rfl ?_ | refine over_drop rfl ?_)
                                                              · exact fun w h => h.pick [2, 3] _ rfl (by decide)
                                                              · have hs2 : (s.1, s.2 ++ [false]) = run tg iv (l.take (k + 1)) := by
                                                                  rw [run_take (by omega), ← hs, rnx, stp]
                                                                  rw [if_neg (by omega), if_neg (by omega), if_neg (by rintro ⟨h1, h2⟩; first | omega | simp_all), if_neg (by rintro ⟨h1, h2⟩; first | omega | simp_all)]
                                                                refine ⟨⟨by omega, hs2, by simp; omega, by dsimp only; rw [hqx, bools_app]; rfl, fun h => by omega, fun _ _ => rfl, fun j hj => ?_⟩, by omega⟩
                                                                by_cases hjk : j < k
                                                                · exact hfi j hjk
                                                                · obtain rfl : j = k := by omega
                                                                  exact hfk
                                                      · try (exfalso; first | omega | (simp_all; done))
                                                        all_goals
                                                          refine tl_skip rfl rfl rfl rfl ?_
                                                          refine tl_skip rfl rfl rfl rfl ?_
                                                          refine tl_skip rfl rfl rfl rfl ?_
                                                          refine tl_skip rfl rfl rfl rfl ?_
                                                          refine tl_skip rfl rfl rfl rfl ?_
                                                          refine tl_want rfl rfl rfl (oj_val (y_pickf (fe_t rfl) fe_c) ?_)
                                                          refine tl_step rfl (oj_val (y_pickf (fe_t rfl) (fe_t rfl)) ?_)
                                                          refine tl_step rfl (oj_val (y_assign (fe_t rfl)) ?_)
                                                          refine tl_nil ?_
                                                          refine tx_then ?_
                                                          refine tr_condf (fe_t rfl) ?_
                                                          refine tr_skip ?_
                                                          refine tx_in ?_
                                                          refine tx_then ?_
                                                          refine tr_region ?_
                                                          refine tl_step rfl (oj_val (y_move (fe_t rfl)) ?_)
                                                          refine tl_step rfl (oj_val (y_move (fe_t rfl)) ?_)
                                                          refine tl_step rfl (oj_slice1 Try.underlying73 Try.sizeOf4 Try.zeroValue4 (fe_t rfl) (by decide) rfl (fun b12 => ?_))
                                                          refine tl_step rfl (oj_append47 (i := 2) (s := 1) (z := (.bool false)) (bytes := 1) Try.underlying73 (by kernel_rfl) (fe_t rfl) (fe_t rfl) rfl (rdl_blk 0 rfl) rfl (by decide) (by first | exact oneI | exact oneF (fun _ => rfl) | exact fun u hu => List.all_eq_true.1 (show List.all _ (fun x => x.oneCell') = true from rfl) u hu | (intro u hu; revert u hu; simp [Value.oneCell'])) (by decide) ⟨by omega, by decide⟩ (fun Aa12 ca12 hca12 => ?_))
                                                          refine tl_step rfl (oj_val (y_assign (fe_t rfl)) ?_)
                                                          refine tl_nil ?_
                                                          refine tx_in ?_
                                                          refine tx_then ?_
                                                          refine tr_region ?_
                                                          refine tl_step rfl (oj_val (y_inc (fe_t rfl) fe_c (by omega)) ?_)
                                                          refine tl_step rfl (oj_val (y_move (fe_t rfl)) ?_)
                                                          refine tl_nil ?_
                                                          apply tx_back4 (k + 1) ((s.1, s.2 ++ [false])) ((⟨_, _, _, _⟩ : Vs)) (l[k].1)
                                                          · exact (cov_cons (by first | rfl | exact v_int (by omega) | exact v_bool (by simp [*])) (cov_cons (by first | rfl | exact v_int (by omega) | exact v_bool (by simp [*])) (cov_cons (by first | rfl | exact v_int (by omega) | exact v_bool (by simp [*])) (cov_nil))))
                                                          · repeat (first | exact over_nil | refine over_put rfl ?_ | refine over_drop rfl ?_)
                                                          · exact fun w h => h.pick [2, 3] _ rfl (by decide)
                                                          · have hs2 : (s.1, s.2 ++ [false]) = run tg iv (l.take (k + 1)) := by
                                                              rw [run_take (by omega), ← hs, rnx, stp]
                                                              rw [if_neg (by omega), if_neg (by omega), if_neg (by rintro ⟨h1, h2⟩; first | omega | simp_all), if_neg (by rintro ⟨h1, h2⟩; first | omega | simp_all)]
                                                            refine ⟨⟨by omega, hs2, by simp; omega, by dsimp only; rw [hqx, bools_app]; rfl, fun h => by omega, fun _ _ => rfl, fun j hj => ?_⟩, by omega⟩
                                                            by_cases hjk : j < k
                                                            · exact hfi j hjk
                                                            · obtain rfl : j = k := by omega
                                                              exact hfk
                      · try (exfalso; first | omega | (simp_all; done))
                        all_goals
                          refine tr_exit ?_
                          refine tx_then_exit ?_
                          refine tx_then_exit ?_
                          refine tx_in_exit ?_
                          refine tx_then ?_
                          refine tr_seq ?_
                          refine tr_region ?_
                          refine tl_step rfl (oj_val (y_move (fe_t rfl)) ?_)
                          refine tl_step rfl (oj_val (y_assign (fe_t rfl)) ?_)
                          refine tl_step rfl (oj_val (y_assign fe_c) ?_)
                          refine tl_nil ?_
                          refine tx_then ?_
                          refine tr_ret ?_
                          refine tx_ret (res2 Try.results54 (rok_t rfl) (rok_t rfl)) (fun w' hS => ?_)
                          have e : s = run tg iv l := by rw [hs, List.take_of_length_le (by omega)]
                          exact ⟨q, (OwnV.rd (hS.holds 0 _ rfl)).2.1, by rw [hqn, show k = n by omega], by rw [← e, ← hqx, show n = q.n by omega]; exact hS.pick [0] _ rfl (by decide)⟩

end Go.Proofs.Ytcpdelkamckmfaa.Red
