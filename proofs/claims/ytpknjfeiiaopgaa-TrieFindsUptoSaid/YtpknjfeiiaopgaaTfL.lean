/- The law TrieFinds. -/
import Derived.Test.YtpknjfeiiaopgaaTfF
namespace Go.Proofs.Ytpknjfeiiaopgaa.Trie
open Go.RowKit Go.Proofs.Ytpknjfeiiaopgaa.E

theorem neq_same {x y : Operand} (a : Bool) (w : World) : (do eqGuard .neq 4 x y (.bool a) (.bool a); binOp .neq 4 (.bool a) (.bool a) : Sem Value).run Try.prog w = .ok (.bool false) w := by
  have := run_neq_bool w 4 a a Try.underlying4
  simp only [beq_self_eq_true, Bool.not_true] at this
  simp [eqGuard, this]
theorem neq_sameb {x y : Operand} {a b : Bool} (h : a = b) (w : World) : (do eqGuard .neq 4 x y (.bool a) (.bool b); binOp .neq 4 (.bool a) (.bool b) : Sem Value).run Try.prog w = .ok (.bool false) w := by
  subst h; exact neq_same a w

set_option maxRecDepth 100000 in
set_option maxHeartbeats 4000000 in
theorem law_ok (A : Option Addr) (n c : Nat) (l : List Pfx) (w : World) (hr : Rd w A (l.flatMap cPx)) (hn : l.length = n) (hm : n ≤ 140737488355328) (hc : n ≤ c) (hok : ∀ p ∈ l, p.x.ok) (A2 : Option Addr) (n2 c2 : Nat) (ad : List Ad) (hr2 : Rd w A2 (ad.flatMap cA)) (hn2 : ad.length = n2) (hm2 : n2 ≤ 140737488355) (hok2 : ∀ x ∈ ad, x.ok) (p : Pfx) (hpx : p.x.ok) (hw0 : wrong l = 0) :
    Calls Try.prog 3 #[.slice A n c, .slice A2 n2 c2, .agg #[.int .u8 p.x.a, .int .u8 p.x.b, .int .u8 p.x.c, .int .u8 p.x.d, (.int .i64 p.n), (.int .i64 p.to)]] w fun e w' => e = .returned (.bool true) ∧ E.St w w' [] := by
  have hf := fine_of hw0
  refine calls_tr Try.func3 Try.ntmps3 rfl rfl (St.refl _) ?_
  refine tr_seq ?_
  refine tr_region ?_
  refine tl_step rfl (oj_box (fe_t rfl) (fun pb => ?_))
  refine tl_step rfl (oj_val (y_assign fe_c) ?_)
  refine tl_nil ?_
  refine tx_then ?_
  refine tr_seq ?_
  refine tr_region ?_
  refine tl_step rfl (oj_val (y_move (fe_t rfl)) ?_)
  refine tl_step rfl (oj_val (y_move (fe_t rfl)) ?_)
  refine tl_step rfl (oj_call Try.call10 fe_f (fel_cons (fe_t rfl) (fel_cons (fe_t rfl) fel_nil)) (fun w' hS => findE A n c l w' (Rd.below hr hS.below) hn hm hc hok A2 n2 c2 ad (Rd.below hr2 hS.below) hn2 hm2 hok2 hw0) (fun y hy => ?_))
  refine tl_step rfl (oj_val (y_move (fe_t rfl)) ?_)
  refine tl_step rfl (oj_val (y_extract (fe_t rfl) rfl) ?_)
  refine tl_step rfl (oj_val (y_extract (fe_t rfl) rfl) ?_)
  refine tl_step rfl (oj_val (y_extract (fe_t rfl) rfl) ?_)
  refine tl_step rfl (oj_val (y_assign (fe_t rfl)) ?_)
  refine tl_step rfl (oj_val (y_assign (fe_t rfl)) ?_)
  refine tl_step rfl (oj_val (y_assign (fe_t rfl)) ?_)
  refine tl_nil ?_
  refine tx_then ?_
  refine tr_seq ?_
  obtain ⟨h1, h2, h3, h4, h5, h6⟩ := hy
  refine tr_region ?_
  refine tl_step rfl (oj_val (y_move (fe_t rfl)) ?_)
  refine tl_step rfl (oj_callv Try.call11 fe_f (fel_cons (fe_t rfl) fel_nil) (fun w' hS => fwrongE A n c l w' (Rd.below hr hS.below) hn hm hc hok) ?_)
  refine tl_step rfl (oj_val (y_assign (fe_t rfl)) ?_)
  refine tl_nil ?_
  refine tx_then ?_
  refine tr_seq ?_
  refine tr_seq ?_
  refine tr_region ?_
  refine tl_step rfl (oj_val (y_move (fe_t rfl)) ?_)
  refine tl_step rfl (oj_callv Try.call12 fe_f (fel_cons (fe_t rfl) fel_nil) (fun w' hS => wrongE A n c l w' (Rd.below hr hS.below) hn hm hc hok) ?_)
  refine tl_step rfl (oj_val (y_move (fe_t rfl)) ?_)
  refine tl_step rfl (oj_val (y_neq (fe_t rfl) (fe_t rfl)) ?_)
  refine tl_step rfl (oj_val (y_move (fe_t rfl)) ?_)
  refine tl_splitp (d := 30) rfl (fun hq1 => ?_) (fun hq2 => ?_)
  · try (exfalso; omega)
    all_goals
      refine tl_skip rfl rfl rfl rfl ?_
      refine tl_skip rfl rfl rfl rfl ?_
      refine tl_skip rfl rfl rfl rfl ?_
      refine tl_step rfl (oj_val (y_pickt (fe_t rfl) fe_c) ?_)
      refine tl_nil ?_
      refine tx_then ?_
      exfalso; omega
  · try (exfalso; omega)
    all_goals
      refine tl_want rfl rfl rfl (oj_val (y_move (fe_t rfl)) ?_)
      refine tl_want rfl rfl rfl (oj_val (y_move (fe_t rfl)) ?_)
      refine tl_want rfl rfl rfl (oj_val (y_neq (fe_t rfl) (fe_t rfl)) ?_)
      refine tl_step rfl (oj_val (y_pickf (fe_t rfl) (fe_t rfl)) ?_)
      refine tl_nil ?_
      refine tx_then ?_
      refine tr_condp (fe_t rfl) (fun hq3 => ?_) (fun hq4 => ?_)
      · exact absurd hq3 (by first | (simp; done) | simp [hw0])
      · try (exfalso; omega)
        all_goals
          refine tr_skip ?_
          refine tx_then ?_
          refine tr_seq ?_
          refine tr_seq ?_
          refine tr_region ?_
          refine tl_step rfl (oj_val (y_move (fe_t rfl)) ?_)
          refine tl_step rfl (oj_val (y_len Try.underlying23 (fe_t rfl)) ?_)
          refine tl_step rfl (oj_val (y_move fe_c) ?_)
          refine tl_nil ?_
          refine tx_then ?_
          refine tr_block ?_
          refine tr_loop1 [6, 12, 37, 38, 39, 40, 41, 42, 43, 44, 45, 46, 47, 48] (fun (i : Nat) => [(37, .int .i64 (i : Int))]) 0 (fun (i : Nat) => []) (fun (i : Nat) => i ≤ n2) (fun (i : Nat) => n2 - i) (0) (cov_cons (by first | rfl | exact v_int (by omega) | exact v_bool (by simp [*])) (cov_nil)) (fun w h => h) ?_ ?_
          · try dsimp only
            omega
          intro i hp
          have hi := hp
          refine tr_seq ?_
          refine tr_region ?_
          refine tl_step rfl (oj_val (y_lss (fe_t rfl) (fe_t rfl)) ?_)
          refine tl_nil ?_
          refine tx_then ?_
          refine tr_seq ?_
          refine tr_condp (fe_t rfl) (fun hq5 => ?_) (fun hq6 => ?_)
          · try (exfalso; omega)
            all_goals
              have hxa : (ad.getD i aN).ok := hok2 _ (by rw [getD_lt (by omega)]; exact List.getElem_mem _)
              refine tr_skip ?_
              refine tx_then ?_
              refine tr_seq ?_
              refine tr_block ?_
              refine tr_seq ?_
              refine tr_region ?_
              refine tl_step rfl (oj_val (y_index Try.underlying23 Try.sizeOf24 (fe_t rfl) (fe_t rfl) (rdl_out hr2) (by rw [flat_len hcA]; omega) (by decide) (by omega) rfl) ?_)
              refine tl_step rfl (oj_val (y_ldA (cs := cA (ad.getD i aN)) Try.isAgg24 Try.sizeOf24 (fe_t rfl) (rdl_out hr2) rfl (by decide) (flatGA (d := aN) hcA (by omega))) ?_)
              refine tl_step rfl (oj_alloc Try.zeroValue24 (fun b1 => ?_))
              refine tl_step rfl (oj_storeW 0 Try.sizeOf24 (fe_t rfl) (fe_t rfl) rfl rfl rfl rfl rfl (?_))
              refine tl_nil ?_
              refine tx_then ?_
              refine tr_seq ?_
              refine tb_draw 7 (sel _ [0, 1, 2, 3]) (fun w h => h.sel _ rfl (by decide)) rfl ?_
              refine tb_float (i := 0) rfl (by kernel_rfl) rfl (wants_none rfl) (yq_of (y_ldbA 0 Try.isAgg24 Try.sizeOf24 (fe_t rfl) rfl rfl rfl)) ?_
              refine tb_float (i := 1) rfl (by kernel_rfl) rfl (wants_none rfl) (yq_of (y_ldbA 3 Try.isAgg26 Try.sizeOf26 (fe_t rfl) rfl rfl rfl)) ?_
              refine tb_float (i := 2) rfl (by kernel_rfl) rfl (wants_none rfl) (yq_call Try.call13 fe_f (fel_cons (fe_t rfl) (fel_cons (fe_t rfl) fel_nil)) (fun w' hS => withinE (ad.getD i aN) p hxa hpx w')) ?_
              refine tb_float (i := 3) rfl (by kernel_rfl) rfl (wants_none rfl) (yq_of (y_ldbA 0 Try.isAgg24 Try.sizeOf24 (fe_t rfl) rfl rfl rfl)) ?_
              refine tb_float (i := 4) rfl (by kernel_rfl) rfl (wants_none rfl) (yq_of (y_ldbA 3 Try.isAgg26 Try.sizeOf26 (fe_t rfl) rfl rfl rfl)) ?_
              refine tb_float (i := 5) rfl (by kernel_rfl) rfl (wants_none rfl) (yq_call Try.call14 fe_f (fel_cons (fe_t rfl) (fel_cons (fe_t rfl) fel_nil)) (fun w' hS => fwithinE (ad.getD i aN) p hxa hpx w')) ?_
              refine tb_float (i := 6) rfl (by kernel_rfl) rfl (wants_none rfl) (yq_of (y_binop (fe_t rfl) (fe_t rfl) (fun w => neq_same _ w))) ?_
              refine tb_done (by kernel_rfl) ?_
              refine tx_then ?_
              refine tr_condf (fe_t rfl) ?_
              refine tr_skip ?_
              refine tx_in ?_
              refine tx_then ?_
              refine tr_region ?_
              refine tl_step rfl (oj_val (y_inc (fe_t rfl) fe_c (by omega)) ?_)
              refine tl_step rfl (oj_val (y_move (fe_t rfl)) ?_)
              refine tl_nil ?_
              apply tx_back1 (i + 1)
              · exact (cov_cons (by first | rfl | exact v_int (by omega) | exact v_bool (by simp [*])) (cov_nil))
              · repeat (first | exact over_nil | refine over_put rfl ?_ | refine over_drop rfl ?_)
              · exact fun w h => h.pick [1, 2, 3] _ rfl (by decide)
              · exact ⟨by omega, by omega⟩
          · try (exfalso; omega)
            all_goals
              refine tr_exit ?_
              refine tx_then_exit ?_
              refine tx_then_exit ?_
              refine tx_in_exit ?_
              refine tx_then ?_
              refine tr_seq ?_
              refine tr_seq ?_
              refine tr_region ?_
              refine tl_step rfl (oj_val (y_move (fe_t rfl)) ?_)
              refine tl_step rfl (oj_val (y_neq (fe_t rfl) fe_c) ?_)
              refine tl_nil ?_
              refine tx_then ?_
              refine tr_condp (fe_t rfl) (fun hq7 => ?_) (fun hq8 => ?_)
              · exact absurd hq7 (by simpa using hw0)
              · try (exfalso; omega)
                all_goals
                  refine tr_skip ?_
                  refine tx_then ?_
                  refine tr_seq ?_
                  refine tr_seq ?_
                  refine tr_region ?_
                  refine tl_step rfl (oj_val (y_move (fe_t rfl)) ?_)
                  refine tl_step rfl (oj_val (y_len Try.underlying27 (fe_t rfl)) ?_)
                  refine tl_step rfl (oj_val (y_move (fe_t rfl)) ?_)
                  refine tl_step rfl (oj_val (y_len Try.underlying23 (fe_t rfl)) ?_)
                  refine tl_step rfl (oj_val (y_neq (fe_t rfl) (fe_t rfl)) ?_)
                  refine tl_step rfl (oj_val (y_move (fe_t rfl)) ?_)
                  refine tl_splitp (d := 62) rfl (fun hq9 => ?_) (fun hq10 => ?_)
                  · try (exfalso; omega)
                    all_goals
                      refine tl_skip rfl rfl rfl rfl ?_
                      refine tl_skip rfl rfl rfl rfl ?_
                      refine tl_skip rfl rfl rfl rfl ?_
                      refine tl_skip rfl rfl rfl rfl ?_
                      refine tl_skip rfl rfl rfl rfl ?_
                      refine tl_step rfl (oj_val (y_pickt (fe_t rfl) fe_c) ?_)
                      refine tl_nil ?_
                      refine tx_then ?_
                      refine tr_condt (fe_t rfl) ?_
                      refine tr_seq ?_
                      refine tr_region ?_
                      refine tl_step rfl (oj_val (y_assign fe_c) ?_)
                      refine tl_nil ?_
                      refine tx_then ?_
                      refine tr_ret ?_
                      refine tx_then_ret ?_
                      refine tx_ret (res1 Try.results3 (rok_t rfl)) (fun w' hS => ?_)
                      exact ⟨ret_bool (by first | rfl | (simp; done) | (simp; omega)), hS.pick [] _ rfl (by decide)⟩
                  · try (exfalso; omega)
                    all_goals
                      refine tl_want rfl rfl rfl (oj_val (y_move (fe_t rfl)) ?_)
                      refine tl_want rfl rfl rfl (oj_val (y_len Try.underlying28 (fe_t rfl)) ?_)
                      refine tl_want rfl rfl rfl (oj_val (y_move (fe_t rfl)) ?_)
                      refine tl_want rfl rfl rfl (oj_val (y_len Try.underlying23 (fe_t rfl)) ?_)
                      refine tl_want rfl rfl rfl (oj_val (y_neq (fe_t rfl) (fe_t rfl)) ?_)
                      refine tl_step rfl (oj_val (y_pickf (fe_t rfl) (fe_t rfl)) ?_)
                      refine tl_nil ?_
                      refine tx_then ?_
                      refine tr_condp (fe_t rfl) (fun hq11 => ?_) (fun hq12 => ?_)
                      · try (exfalso; omega)
                        all_goals
                          refine tr_seq ?_
                          refine tr_region ?_
                          refine tl_step rfl (oj_val (y_assign fe_c) ?_)
                          refine tl_nil ?_
                          refine tx_then ?_
                          refine tr_ret ?_
                          refine tx_then_ret ?_
                          refine tx_ret (res1 Try.results3 (rok_t rfl)) (fun w' hS => ?_)
                          exact ⟨ret_bool (by first | rfl | (simp; done) | (simp; omega)), hS.pick [] _ rfl (by decide)⟩
                      · try (exfalso; omega)
                        all_goals
                          refine tr_skip ?_
                          refine tx_then ?_
                          refine tr_seq ?_
                          refine tr_seq ?_
                          refine tr_region ?_
                          refine tl_step rfl (oj_val (y_move (fe_t rfl)) ?_)
                          refine tl_step rfl (oj_val (y_len Try.underlying23 (fe_t rfl)) ?_)
                          refine tl_step rfl (oj_val (y_move fe_c) ?_)
                          refine tl_nil ?_
                          refine tx_then ?_
                          refine tr_block ?_
                          refine tr_loop1 [6, 13, 14, 15, 16, 71, 72, 73, 74, 75, 76, 77, 78, 79, 80, 81, 82, 83, 84, 85, 86, 87, 88, 89, 90, 91, 92, 93, 94, 95, 96] (fun (i : Nat) => [(71, .int .i64 (i : Int))]) 0 (fun (i : Nat) => []) (fun (i : Nat) => i ≤ n2) (fun (i : Nat) => n2 - i) (0) (cov_cons (by first | rfl | exact v_int (by omega) | exact v_bool (by simp [*])) (cov_nil)) (fun w h => h) ?_ ?_
                          · try dsimp only
                            omega
                          intro i hp
                          have hi := hp
                          refine tr_seq ?_
                          refine tr_region ?_
                          refine tl_step rfl (oj_val (y_lss (fe_t rfl) (fe_t rfl)) ?_)
                          refine tl_nil ?_
                          refine tx_then ?_
                          refine tr_seq ?_
                          refine tr_condp (fe_t rfl) (fun hq13 => ?_) (fun hq14 => ?_)
                          · try (exfalso; omega)
                            all_goals
                              have hxa : (ad.getD i aN).ok := hok2 _ (by rw [getD_lt (by omega)]; exact List.getElem_mem _)
                              refine tr_skip ?_
                              refine tx_then ?_
                              refine tr_seq ?_
                              refine tr_block ?_
                              refine tr_seq ?_
                              refine tr_region ?_
                              refine tl_step rfl (oj_val (y_move (fe_t rfl)) ?_)
                              refine tl_step rfl (oj_val (y_index Try.underlying23 Try.sizeOf24 (fe_t rfl) (fe_t rfl) (rdl_out hr2) (by rw [flat_len hcA]; omega) (by decide) (by omega) rfl) ?_)
                              refine tl_step rfl (oj_val (y_ldA (cs := cA (ad.getD i aN)) Try.isAgg24 Try.sizeOf24 (fe_t rfl) (rdl_out hr2) rfl (by decide) (flatGA (d := aN) hcA (by omega))) ?_)
                              refine tl_step rfl (oj_alloc Try.zeroValue24 (fun b2 => ?_))
                              refine tl_step rfl (oj_val (y_assign (fe_t rfl)) ?_)
                              refine tl_step rfl (oj_storeW 0 Try.sizeOf24 (fe_t rfl) (fe_t rfl) rfl rfl rfl rfl rfl (?_))
                              refine tl_nil ?_
                              refine tx_then ?_
                              refine tr_seq ?_
                              refine tr_region ?_
                              refine tl_step rfl (oj_val (y_move (fe_t rfl)) ?_)
                              refine tl_step rfl (oj_val (y_ldbA 0 Try.isAgg24 Try.sizeOf24 (fe_t rfl) rfl rfl rfl) ?_)
                              refine tl_step rfl (oj_call Try.call15 fe_f (fel_cons (fe_t rfl) (fel_cons (fe_t rfl) fel_nil)) (fun w' hS => ffindE A n c l w' (Rd.below hr hS.below) hn hm hc hok hf (ad.getD i aN) hxa) (fun z hz => ?_))
                              refine tl_step rfl (oj_val (y_move (fe_t rfl)) ?_)
                              refine tl_step rfl (oj_val (y_extract (fe_t rfl) rfl) ?_)
                              refine tl_step rfl (oj_val (y_extract (fe_t rfl) rfl) ?_)
                              refine tl_step rfl (oj_val (y_assign (fe_t rfl)) ?_)
                              refine tl_step rfl (oj_val (y_assign (fe_t rfl)) ?_)
                              refine tl_nil ?_
                              refine tx_then ?_
                              refine tr_seq ?_
                              obtain ⟨hu1, hu2⟩ := Best.uniq hf (h2 i (by omega)) hz
                              refine tr_region ?_
                              refine tl_step rfl (oj_val (y_move (fe_t rfl)) ?_)
                              refine tl_step rfl (oj_val (y_move (fe_t rfl)) ?_)
                              refine tl_step rfl (oj_val (y_index Try.underlying27 Try.sizeOf3 (fe_t rfl) (fe_t rfl) (rdl_vec 1 rfl) (by rw [h4]; simp [cI]; omega) (by decide) (by omega) (Nat.mul_one _)) ?_)
                              refine tl_step rfl (oj_val (y_ld (v := (.int .i64 ((y.2.2.getD i rN).1))) Try.isAgg3 (fe_t rfl) (rdl_vec 1 rfl) (by rw [h4]; exact getI_ (by omega))) ?_)
                              refine tl_step rfl (oj_val (y_move (fe_t rfl)) ?_)
                              refine tl_step rfl (oj_val (y_neq (fe_t rfl) (fe_t rfl)) ?_)
                              refine tl_step rfl (oj_val (y_move (fe_t rfl)) ?_)
                              refine tl_splitp (d := 88) rfl (fun hq15 => ?_) (fun hq16 => ?_)
                              · try (exfalso; omega)
                                all_goals
                                  refine tl_skip rfl rfl rfl rfl ?_
                                  refine tl_skip rfl rfl rfl rfl ?_
                                  refine tl_skip rfl rfl rfl rfl ?_
                                  refine tl_skip rfl rfl rfl rfl ?_
                                  refine tl_skip rfl rfl rfl rfl ?_
                                  refine tl_skip rfl rfl rfl rfl ?_
                                  refine tl_step rfl (oj_val (y_pickt (fe_t rfl) fe_c) ?_)
                                  refine tl_nil ?_
                                  refine tx_then ?_
                                  refine tr_condt (fe_t rfl) ?_
                                  refine tr_seq ?_
                                  refine tr_region ?_
                                  refine tl_step rfl (oj_val (y_assign fe_c) ?_)
                                  refine tl_nil ?_
                                  refine tx_then ?_
                                  refine tr_ret ?_
                                  refine tx_in_ret ?_
                                  refine tx_then_ret ?_
                                  refine tx_then_ret ?_
                                  refine tx_in_ret ?_
                                  refine tx_then_ret ?_
                                  refine tx_ret (res1 Try.results3 (rok_t rfl)) (fun w' hS => ?_)
                                  exact ⟨ret_bool (by first | rfl | (simp; done) | (simp; omega)), hS.pick [] _ rfl (by decide)⟩
                              · try (exfalso; omega)
                                all_goals
                                  refine tl_want rfl rfl rfl (oj_val (y_move (fe_t rfl)) ?_)
                                  refine tl_want rfl rfl rfl (oj_val (y_move (fe_t rfl)) ?_)
                                  refine tl_want rfl rfl rfl (oj_val (y_index Try.underlying28 Try.sizeOf4 (fe_t rfl) (fe_t rfl) (rdl_vec 2 rfl) (by rw [h6]; simp [bls]; omega) (by decide) (by omega) (Nat.mul_one _)) ?_)
                                  refine tl_want rfl rfl rfl (oj_val (y_ld (v := .bool (y.2.2.getD i rN).2) Try.isAgg4 (fe_t rfl) (rdl_vec 2 rfl) (by rw [h6]; exact getB_ (by omega))) ?_)
                                  refine tl_want rfl rfl rfl (oj_val (y_move (fe_t rfl)) ?_)
                                  refine tl_want rfl rfl rfl (oj_val (y_binop (fe_t rfl) (fe_t rfl) (fun w => neq_sameb (by assumption) w)) ?_)
                                  refine tl_step rfl (oj_val (y_pickf (fe_t rfl) (fe_t rfl)) ?_)
                                  refine tl_nil ?_
                                  refine tx_then ?_
                                  refine tr_condf (fe_t rfl) ?_
                                  refine tr_skip ?_
                                  refine tx_in ?_
                                  refine tx_then ?_
                                  refine tr_region ?_
                                  refine tl_step rfl (oj_val (y_inc (fe_t rfl) fe_c (by omega)) ?_)
                                  refine tl_step rfl (oj_val (y_move (fe_t rfl)) ?_)
                                  refine tl_nil ?_
                                  apply tx_back1 (i + 1)
                                  · exact (cov_cons (by first | rfl | exact v_int (by omega) | exact v_bool (by simp [*])) (cov_nil))
                                  · repeat (first | exact over_nil | refine over_put rfl ?_ | refine over_drop rfl ?_)
                                  · exact fun w h => h.pick [1, 2, 3] _ rfl (by decide)
                                  · exact ⟨by omega, by omega⟩
                          · try (exfalso; omega)
                            all_goals
                              refine tr_exit ?_
                              refine tx_then_exit ?_
                              refine tx_then_exit ?_
                              refine tx_in_exit ?_
                              refine tx_then ?_
                              refine tr_seq ?_
                              refine tr_region ?_
                              refine tl_step rfl (oj_val (y_assign fe_c) ?_)
                              refine tl_nil ?_
                              refine tx_then ?_
                              refine tr_ret ?_
                              refine tx_ret (res1 Try.results3 (rok_t rfl)) (fun w' hS => ?_)
                              exact ⟨ret_bool (by first | rfl | (simp; done) | (simp; omega)), hS.pick [] _ rfl (by decide)⟩

set_option maxRecDepth 100000 in
set_option maxHeartbeats 4000000 in
theorem law_bad (A : Option Addr) (n c : Nat) (l : List Pfx) (w : World) (hr : Rd w A (l.flatMap cPx)) (hn : l.length = n) (hm : n ≤ 140737488355328) (hc : n ≤ c) (hok : ∀ p ∈ l, p.x.ok) (A2 : Option Addr) (n2 c2 : Nat) (ad : List Ad) (hr2 : Rd w A2 (ad.flatMap cA)) (hn2 : ad.length = n2) (hm2 : n2 ≤ 140737488355) (hok2 : ∀ x ∈ ad, x.ok) (p : Pfx) (hpx : p.x.ok) (hw0 : wrong l ≠ 0) :
    Calls Try.prog 3 #[.slice A n c, .slice A2 n2 c2, .agg #[.int .u8 p.x.a, .int .u8 p.x.b, .int .u8 p.x.c, .int .u8 p.x.d, (.int .i64 p.n), (.int .i64 p.to)]] w fun e w' => e = .returned (.bool true) ∧ E.St w w' [] := by
  refine calls_tr Try.func3 Try.ntmps3 rfl rfl (St.refl _) ?_
  refine tr_seq ?_
  refine tr_region ?_
  refine tl_step rfl (oj_box (fe_t rfl) (fun pb => ?_))
  refine tl_step rfl (oj_val (y_assign fe_c) ?_)
  refine tl_nil ?_
  refine tx_then ?_
  refine tr_seq ?_
  refine tr_region ?_
  refine tl_step rfl (oj_val (y_move (fe_t rfl)) ?_)
  refine tl_step rfl (oj_val (y_move (fe_t rfl)) ?_)
  refine tl_step rfl (oj_callv Try.call10 fe_f (fel_cons (fe_t rfl) (fel_cons (fe_t rfl) fel_nil)) (fun w' hS => findN A n c l w' (Rd.below hr hS.below) hn hm hc hok A2 n2 c2 hw0) ?_)
  refine tl_step rfl (oj_val (y_move (fe_t rfl)) ?_)
  refine tl_step rfl (oj_val (y_extract (fe_t rfl) rfl) ?_)
  refine tl_step rfl (oj_val (y_extract (fe_t rfl) rfl) ?_)
  refine tl_step rfl (oj_val (y_extract (fe_t rfl) rfl) ?_)
  refine tl_step rfl (oj_val (y_assign (fe_t rfl)) ?_)
  refine tl_step rfl (oj_val (y_assign (fe_t rfl)) ?_)
  refine tl_step rfl (oj_val (y_assign (fe_t rfl)) ?_)
  refine tl_nil ?_
  refine tx_then ?_
  refine tr_seq ?_
  refine tr_region ?_
  refine tl_step rfl (oj_val (y_move (fe_t rfl)) ?_)
  refine tl_step rfl (oj_callv Try.call11 fe_f (fel_cons (fe_t rfl) fel_nil) (fun w' hS => fwrongE A n c l w' (Rd.below hr hS.below) hn hm hc hok) ?_)
  refine tl_step rfl (oj_val (y_assign (fe_t rfl)) ?_)
  refine tl_nil ?_
  refine tx_then ?_
  refine tr_seq ?_
  refine tr_seq ?_
  refine tr_region ?_
  refine tl_step rfl (oj_val (y_move (fe_t rfl)) ?_)
  refine tl_step rfl (oj_callv Try.call12 fe_f (fel_cons (fe_t rfl) fel_nil) (fun w' hS => wrongE A n c l w' (Rd.below hr hS.below) hn hm hc hok) ?_)
  refine tl_step rfl (oj_val (y_move (fe_t rfl)) ?_)
  refine tl_step rfl (oj_val (y_neq (fe_t rfl) (fe_t rfl)) ?_)
  refine tl_step rfl (oj_val (y_move (fe_t rfl)) ?_)
  refine tl_splitp (d := 30) rfl (fun hq1 => ?_) (fun hq2 => ?_)
  · try (exfalso; omega)
    all_goals
      refine tl_skip rfl rfl rfl rfl ?_
      refine tl_skip rfl rfl rfl rfl ?_
      refine tl_skip rfl rfl rfl rfl ?_
      refine tl_step rfl (oj_val (y_pickt (fe_t rfl) fe_c) ?_)
      refine tl_nil ?_
      refine tx_then ?_
      exfalso; omega
  · try (exfalso; omega)
    all_goals
      refine tl_want rfl rfl rfl (oj_val (y_move (fe_t rfl)) ?_)
      refine tl_want rfl rfl rfl (oj_val (y_move (fe_t rfl)) ?_)
      refine tl_want rfl rfl rfl (oj_val (y_neq (fe_t rfl) (fe_t rfl)) ?_)
      refine tl_step rfl (oj_val (y_pickf (fe_t rfl) (fe_t rfl)) ?_)
      refine tl_nil ?_
      refine tx_then ?_
      refine tr_condp (fe_t rfl) (fun hq3 => ?_) (fun hq4 => ?_)
      · exact absurd hq3 (by first | (simp; done) | simp [hw0])
      · try (exfalso; omega)
        all_goals
          refine tr_skip ?_
          refine tx_then ?_
          refine tr_seq ?_
          refine tr_seq ?_
          refine tr_region ?_
          refine tl_step rfl (oj_val (y_move (fe_t rfl)) ?_)
          refine tl_step rfl (oj_val (y_len Try.underlying23 (fe_t rfl)) ?_)
          refine tl_step rfl (oj_val (y_move fe_c) ?_)
          refine tl_nil ?_
          refine tx_then ?_
          refine tr_block ?_
          refine tr_loop1 [6, 12, 37, 38, 39, 40, 41, 42, 43, 44, 45, 46, 47, 48] (fun (i : Nat) => [(37, .int .i64 (i : Int))]) 0 (fun (i : Nat) => []) (fun (i : Nat) => i ≤ n2) (fun (i : Nat) => n2 - i) (0) (cov_cons (by first | rfl | exact v_int (by omega) | exact v_bool (by simp [*])) (cov_nil)) (fun w h => h) ?_ ?_
          · try dsimp only
            omega
          intro i hp
          have hi := hp
          refine tr_seq ?_
          refine tr_region ?_
          refine tl_step rfl (oj_val (y_lss (fe_t rfl) (fe_t rfl)) ?_)
          refine tl_nil ?_
          refine tx_then ?_
          refine tr_seq ?_
          refine tr_condp (fe_t rfl) (fun hq5 => ?_) (fun hq6 => ?_)
          · try (exfalso; omega)
            all_goals
              have hxa : (ad.getD i aN).ok := hok2 _ (by rw [getD_lt (by omega)]; exact List.getElem_mem _)
              refine tr_skip ?_
              refine tx_then ?_
              refine tr_seq ?_
              refine tr_block ?_
              refine tr_seq ?_
              refine tr_region ?_
              refine tl_step rfl (oj_val (y_index Try.underlying23 Try.sizeOf24 (fe_t rfl) (fe_t rfl) (rdl_out hr2) (by rw [flat_len hcA]; omega) (by decide) (by omega) rfl) ?_)
              refine tl_step rfl (oj_val (y_ldA (cs := cA (ad.getD i aN)) Try.isAgg24 Try.sizeOf24 (fe_t rfl) (rdl_out hr2) rfl (by decide) (flatGA (d := aN) hcA (by omega))) ?_)
              refine tl_step rfl (oj_alloc Try.zeroValue24 (fun b1 => ?_))
              refine tl_step rfl (oj_storeW 0 Try.sizeOf24 (fe_t rfl) (fe_t rfl) rfl rfl rfl rfl rfl (?_))
              refine tl_nil ?_
              refine tx_then ?_
              refine tr_seq ?_
              refine tb_draw 7 (sel _ [0, 1]) (fun w h => h.sel _ rfl (by decide)) rfl ?_
              refine tb_float (i := 0) rfl (by kernel_rfl) rfl (wants_none rfl) (yq_of (y_ldbA 0 Try.isAgg24 Try.sizeOf24 (fe_t rfl) rfl rfl rfl)) ?_
              refine tb_float (i := 1) rfl (by kernel_rfl) rfl (wants_none rfl) (yq_of (y_ldbA 1 Try.isAgg26 Try.sizeOf26 (fe_t rfl) rfl rfl rfl)) ?_
              refine tb_float (i := 2) rfl (by kernel_rfl) rfl (wants_none rfl) (yq_call Try.call13 fe_f (fel_cons (fe_t rfl) (fel_cons (fe_t rfl) fel_nil)) (fun w' hS => withinE (ad.getD i aN) p hxa hpx w')) ?_
              refine tb_float (i := 3) rfl (by kernel_rfl) rfl (wants_none rfl) (yq_of (y_ldbA 0 Try.isAgg24 Try.sizeOf24 (fe_t rfl) rfl rfl rfl)) ?_
              refine tb_float (i := 4) rfl (by kernel_rfl) rfl (wants_none rfl) (yq_of (y_ldbA 1 Try.isAgg26 Try.sizeOf26 (fe_t rfl) rfl rfl rfl)) ?_
              refine tb_float (i := 5) rfl (by kernel_rfl) rfl (wants_none rfl) (yq_call Try.call14 fe_f (fel_cons (fe_t rfl) (fel_cons (fe_t rfl) fel_nil)) (fun w' hS => fwithinE (ad.getD i aN) p hxa hpx w')) ?_
              refine tb_float (i := 6) rfl (by kernel_rfl) rfl (wants_none rfl) (yq_of (y_binop (fe_t rfl) (fe_t rfl) (fun w => neq_same _ w))) ?_
              refine tb_done (by kernel_rfl) ?_
              refine tx_then ?_
              refine tr_condf (fe_t rfl) ?_
              refine tr_skip ?_
              refine tx_in ?_
              refine tx_then ?_
              refine tr_region ?_
              refine tl_step rfl (oj_val (y_inc (fe_t rfl) fe_c (by omega)) ?_)
              refine tl_step rfl (oj_val (y_move (fe_t rfl)) ?_)
              refine tl_nil ?_
              apply tx_back1 (i + 1)
              · exact (cov_cons (by first | rfl | exact v_int (by omega) | exact v_bool (by simp [*])) (cov_nil))
              · repeat (first | exact over_nil | refine over_put rfl ?_ | refine over_drop rfl ?_)
              · exact fun w h => h.pick [1] _ rfl (by decide)
              · exact ⟨by omega, by omega⟩
          · try (exfalso; omega)
            all_goals
              refine tr_exit ?_
              refine tx_then_exit ?_
              refine tx_then_exit ?_
              refine tx_in_exit ?_
              refine tx_then ?_
              refine tr_seq ?_
              refine tr_seq ?_
              refine tr_region ?_
              refine tl_step rfl (oj_val (y_move (fe_t rfl)) ?_)
              refine tl_step rfl (oj_val (y_neq (fe_t rfl) fe_c) ?_)
              refine tl_nil ?_
              refine tx_then ?_
              refine tr_condp (fe_t rfl) (fun hq7 => ?_) (fun hq8 => ?_)
              · try (exfalso; omega)
                all_goals
                  refine tr_seq ?_
                  refine tr_region ?_
                  refine tl_step rfl (oj_val (y_move (fe_t rfl)) ?_)
                  refine tl_step rfl (oj_val (y_len Try.underlying27 (fe_t rfl)) ?_)
                  refine tl_step rfl (oj_val (y_move (fe_t rfl)) ?_)
                  refine tl_step rfl (oj_val (y_len Try.underlying28 (fe_t rfl)) ?_)
                  refine tl_step rfl (oj_val (y_add (fe_t rfl) (fe_t rfl) (by omega)) ?_)
                  refine tl_step rfl (oj_val (y_eq (fe_t rfl) fe_c) ?_)
                  refine tl_step rfl (oj_val (y_assign (fe_t rfl)) ?_)
                  refine tl_nil ?_
                  refine tx_then ?_
                  refine tr_ret ?_
                  refine tx_then_ret ?_
                  refine tx_ret (res1 Try.results3 (rok_t rfl)) (fun w' hS => ?_)
                  exact ⟨ret_bool (by first | rfl | (simp; done) | (simp; omega)), hS.pick [] _ rfl (by decide)⟩
              · exact absurd hq8 (by simpa using hw0)

end Go.Proofs.Ytpknjfeiiaopgaa.Trie
