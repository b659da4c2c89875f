/- the law TreeWays, both nodes there. -/
import Derived.Test.YtcpdelkamckmfaaTwD
namespace Go.Proofs.Ytcpdelkamckmfaa.Hier
open Go.RowKit Go.Proofs.Ytcpdelkamckmfaa.E Go.Proofs.Ytcpdelkamckmfaa.Frac Go.Proofs.Ytcpdelkamckmfaa.Big
open Go.Proofs.Ytcpdelkamckmfaa.Wfq (Ext Ext.rfl Ext.trans Ext.cons mul_in)

set_option maxRecDepth 100000 in
set_option maxHeartbeats 4000000 in
theorem law_1ok (A : Option Addr) (n c : Nat) (ns : List (Int × Int)) (w : World) (hr : Rd w A (ns.flatMap c2)) (hn : ns.length = n) (hm : n ≤ 140737488355328) {t : Tr} (ht : t = trOf ns) (g : t.Good) {a b : Nat} (hw : wrongT ns = 0) (ha : a < t.n) (hs0 : (share t a).2.2 = 0) (hb : b < t.n) :
    Calls Try.prog 12 #[.slice A n c, (.int .i64 ((a : Int))), (.int .i64 ((b : Int)))] w fun e w' => e = .returned (.bool true) ∧ St w w' [] := by
  have htn : t.n = n := by rw [ht, trOf_n, hn]
  have hn16 := g.n16
  have hn1 := g.n1
  have hlvs := leaves_len (t := t) (k := n)
  have hpa := path_len g a ha
  have hpb := path_len g b hb
  refine calls_tr Try.func12 Try.ntmps12 rfl rfl (St.refl _) ?_
  refine tr_seq ?_
  refine tr_region ?_
  refine tl_step rfl (oj_val (y_assign fe_c) ?_)
  refine tl_nil ?_
  refine tx_then ?_
  refine tr_seq ?_
  refine tr_region ?_
  refine tl_step rfl (oj_val (y_move (fe_t rfl)) ?_)
  refine tl_step rfl (oj_call Try.call84 fe_f (fel_cons (fe_t rfl) fel_nil) (fun w' hS => leaves_ok A n c ns w' (Rd.below hr hS.below) hn hm hw) (fun r0 h0 => ?_))
  refine tl_step rfl (oj_val (y_move (fe_t rfl)) ?_)
  refine tl_step rfl (oj_val (y_extract (fe_t rfl) rfl) ?_)
  refine tl_step rfl (oj_val (y_extract (fe_t rfl) rfl) ?_)
  refine tl_step rfl (oj_val (y_assign (fe_t rfl)) ?_)
  refine tl_step rfl (oj_val (y_assign (fe_t rfl)) ?_)
  refine tl_nil ?_
  refine tx_then ?_
  refine tr_seq ?_
  refine tr_region ?_
  refine tl_step rfl (oj_val (y_move (fe_t rfl)) ?_)
  refine tl_step rfl (oj_val (y_move (fe_t rfl)) ?_)
  refine tl_step rfl (oj_call Try.call85 fe_f (fel_cons (fe_t rfl) (fel_cons (fe_t rfl) fel_nil)) (fun w' hS => path_ok A n c ns w' (Rd.below hr hS.below) hn hm ht g hw (a := a) ha) (fun r1 h1 => ?_))
  refine tl_step rfl (oj_val (y_move (fe_t rfl)) ?_)
  refine tl_step rfl (oj_val (y_extract (fe_t rfl) rfl) ?_)
  refine tl_step rfl (oj_val (y_extract (fe_t rfl) rfl) ?_)
  refine tl_step rfl (oj_val (y_assign (fe_t rfl)) ?_)
  refine tl_step rfl (oj_val (y_assign (fe_t rfl)) ?_)
  refine tl_nil ?_
  refine tx_then ?_
  refine tr_seq ?_
  refine tr_region ?_
  refine tl_step rfl (oj_val (y_move (fe_t rfl)) ?_)
  refine tl_step rfl (oj_val (y_move (fe_t rfl)) ?_)
  refine tl_step rfl (oj_callv Try.call86 fe_f (fel_cons (fe_t rfl) (fel_cons (fe_t rfl) fel_nil)) (fun w' hS => share_ok_ A n c ns w' (Rd.below hr hS.below) hn hm ht g hw (a := a) ha) ?_)
  refine tl_step rfl (oj_val (y_move (fe_t rfl)) ?_)
  refine tl_step rfl (oj_val (y_extract (fe_t rfl) rfl) ?_)
  refine tl_step rfl (oj_val (y_extract (fe_t rfl) rfl) ?_)
  refine tl_step rfl (oj_alloc Try.zeroValue23 (fun sb => ?_))
  refine tl_step rfl (oj_storeW 0 Try.sizeOf23 (fe_t rfl) (fe_t rfl) rfl rfl rfl rfl rfl (?_))
  refine tl_step rfl (oj_val (y_assign (fe_t rfl)) ?_)
  refine tl_nil ?_
  refine tx_then ?_
  refine tr_seq ?_
  refine tr_region ?_
  refine tl_step rfl (oj_val (y_move (fe_t rfl)) ?_)
  refine tl_step rfl (oj_val (y_move (fe_t rfl)) ?_)
  refine tl_step rfl (oj_val (y_move (fe_t rfl)) ?_)
  refine tl_step rfl (oj_call Try.call87 fe_f (fel_cons (fe_t rfl) (fel_cons (fe_t rfl) (fel_cons (fe_t rfl) fel_nil))) (fun w' hS => meet_ok_ A n c ns w' (Rd.below hr hS.below) hn hm ht g hw (a := a) (b := b) ha hb) (fun m0 hME => ?_))
  refine tl_step rfl (oj_val (y_move (fe_t rfl)) ?_)
  refine tl_step rfl (oj_val (y_extract (fe_t rfl) rfl) ?_)
  refine tl_step rfl (oj_val (y_extract (fe_t rfl) rfl) ?_)
  refine tl_step rfl (oj_val (y_assign (fe_t rfl)) ?_)
  refine tl_step rfl (oj_val (y_assign (fe_t rfl)) ?_)
  refine tl_nil ?_
  refine tx_then ?_
  refine tr_seq ?_
  refine tr_region ?_
  refine tl_step rfl (oj_val (y_move (fe_t rfl)) ?_)
  refine tl_step rfl (oj_callv Try.call75 fe_f (fel_cons (fe_t rfl) fel_nil) (fun w' hS => qWrongE A n c ns w' (Rd.below hr hS.below) hn hm) ?_)
  refine tl_step rfl (oj_val (y_assign (fe_t rfl)) ?_)
  refine tl_nil ?_
  refine tx_then ?_
  refine tr_seq ?_
  refine tr_seq ?_
  refine tr_region ?_
  refine tl_step rfl (oj_val (y_move (fe_t rfl)) ?_)
  refine tl_step rfl (oj_callv Try.call88 fe_f (fel_cons (fe_t rfl) fel_nil) (fun w' hS => treeWrongE A n c ns w' (Rd.below hr hS.below) hn hm) ?_)
  refine tl_step rfl (oj_val (y_move (fe_t rfl)) ?_)
  refine tl_step rfl (oj_val (y_neq (fe_t rfl) (fe_t rfl)) ?_)
  refine tl_step rfl (oj_val (y_move (fe_t rfl)) ?_)
  refine tl_splitp (d := 59) rfl (fun hq1 => ?_) (fun hq2 => ?_)
  · try (exfalso; omega)
    all_goals
      refine tl_skip rfl rfl rfl rfl ?_
      refine tl_skip rfl rfl rfl rfl ?_
      refine tl_skip rfl rfl rfl rfl ?_
      refine tl_step rfl (oj_val (y_pickt (fe_t rfl) fe_c) ?_)
      refine tl_nil ?_
      refine tx_then ?_
      exfalso; omega
  · try (exfalso; omega)
    all_goals
      refine tl_want rfl rfl rfl (oj_val (y_move (fe_t rfl)) ?_)
      refine tl_want rfl rfl rfl (oj_val (y_move (fe_t rfl)) ?_)
      refine tl_want rfl rfl rfl (oj_val (y_neq (fe_t rfl) (fe_t rfl)) ?_)
      refine tl_step rfl (oj_val (y_pickf (fe_t rfl) (fe_t rfl)) ?_)
      refine tl_nil ?_
      refine tx_then ?_
      refine tr_condp (fe_t rfl) (fun hq3 => ?_) (fun hq4 => ?_)
      · exfalso; omega
      · try (exfalso; omega)
        all_goals
          refine tr_skip ?_
          refine tx_then ?_
          refine tr_seq ?_
          refine tr_seq ?_
          refine tr_region ?_
          refine tl_step rfl (oj_val (y_move (fe_t rfl)) ?_)
          refine tl_step rfl (oj_val (y_neq (fe_t rfl) fe_c) ?_)
          refine tl_nil ?_
          refine tx_then ?_
          refine tr_condp (fe_t rfl) (fun hq5 => ?_) (fun hq6 => ?_)
          · exact absurd hw hq5
          · try (exfalso; omega)
            all_goals
              refine tr_skip ?_
              refine tx_then ?_
              refine tr_seq ?_
              refine tr_region ?_
              refine tl_step rfl (oj_val (y_assign fe_c) ?_)
              refine tl_nil ?_
              refine tx_then ?_
              refine tr_seq ?_
              refine tr_seq ?_
              refine tr_region ?_
              refine tl_step rfl (oj_val (y_move (fe_t rfl)) ?_)
              refine tl_step rfl (oj_val (y_len Try.underlying105 (fe_t rfl)) ?_)
              refine tl_step rfl (oj_val (y_move fe_c) ?_)
              refine tl_nil ?_
              refine tx_then ?_
              refine tr_block ?_
              refine tr_add (r := vec 3 1 (.slice none 0 0) 0 []) vec_nil rfl ?_
              refine tr_loop2 [16, 17, 18, 20, 98, 99, 100, 101, 102, 103, 104, 105, 106, 107, 108, 109, 110, 111, 112, 113, 114, 115, 116, 117, 118, 119, 120] (fun (k : Nat) (z1 : Vs) => [(98, .int .i64 (k : Int)), (16, .slice z1.A z1.n z1.c)]) 0 (fun (k : Nat) (z1 : Vs) => [(0, vec 3 1 (.slice z1.A z1.n z1.c) z1.n z1.xs)]) (fun (k : Nat) (z1 : Vs) => k ≤ n ∧ z1.n = (leavesTo t k).length ∧ z1.xs = cI (kI (leavesTo t k))) (fun (k : Nat) (z1 : Vs) => n - k) (0) (⟨none, 0, 0, []⟩ : Vs) (cov_cons (by first | rfl | exact v_int (by omega) | exact v_bool (by simp [*])) (cov_cons (by first | rfl | exact v_int (by omega) | exact v_bool (by simp [*])) (cov_nil))) (fun w h => h) ?_ ?_
              · try dsimp only
                exact ⟨by omega, rfl, rfl⟩
              intro k z1 hp
              obtain ⟨hk, hzn, hzx⟩ := hp
              have hll := leaves_len (t := t) (k := k)
              refine tr_seq ?_
              refine tr_region ?_
              refine tl_step rfl (oj_val (y_lss (fe_t rfl) (fe_t rfl)) ?_)
              refine tl_nil ?_
              refine tx_then ?_
              refine tr_seq ?_
              refine tr_condp (fe_t rfl) (fun hq7 => ?_) (fun hq8 => ?_)
              · try (exfalso; omega)
                all_goals
                  refine tr_skip ?_
                  refine tx_then ?_
                  refine tr_seq ?_
                  refine tr_block ?_
                  refine tr_seq ?_
                  refine tr_region ?_
                  refine tl_step rfl (oj_val (y_move (fe_t rfl)) ?_)
                  refine tl_step rfl (oj_val (y_assign (fe_t rfl)) ?_)
                  refine tl_nil ?_
                  refine tx_then ?_
                  refine tr_seq ?_
                  refine tr_region ?_
                  refine tl_step rfl (oj_val (y_assign fe_c) ?_)
                  refine tl_nil ?_
                  refine tx_then ?_
                  refine tr_seq ?_
                  refine tr_seq ?_
                  refine tr_region ?_
                  refine tl_step rfl (oj_val (y_move (fe_t rfl)) ?_)
                  refine tl_step rfl (oj_val (y_len Try.underlying105 (fe_t rfl)) ?_)
                  refine tl_step rfl (oj_val (y_move fe_c) ?_)
                  refine tl_nil ?_
                  refine tx_then ?_
                  refine tr_block ?_
                  refine tr_loop2 [18, 20, 103, 104, 105, 106, 107, 108, 109, 110, 111, 112, 113] (fun (j : Nat) (q : Int) => [(103, .int .i64 (j : Int)), (18, .int .i64 q)]) 0 (fun (j : Nat) (q : Int) => []) (fun (j : Nat) (q : Int) => j ≤ n ∧ q = ((t.kidsTo j k).length : Int)) (fun (j : Nat) (q : Int) => n - j) (0) (0) (cov_cons (by first | rfl | exact v_int (by omega) | exact v_bool (by simp [*])) (cov_cons (by first | rfl | exact v_int (by omega) | exact v_bool (by simp [*])) (cov_nil))) (fun w h => h) ?_ ?_
                  · try dsimp only
                    exact ⟨by omega, rfl⟩
                  intro j q hp
                  obtain ⟨hj, hq0⟩ := hp
                  have hkl := kidsTo_len (t := t) (m := j) (k := k)
                  refine tr_seq ?_
                  refine tr_region ?_
                  refine tl_step rfl (oj_val (y_lss (fe_t rfl) (fe_t rfl)) ?_)
                  refine tl_nil ?_
                  refine tx_then ?_
                  refine tr_seq ?_
                  refine tr_condp (fe_t rfl) (fun hq9 => ?_) (fun hq10 => ?_)
                  · try (exfalso; omega)
                    all_goals
                      refine tr_skip ?_
                      refine tx_then ?_
                      refine tr_seq ?_
                      refine tr_block ?_
                      refine tr_seq ?_
                      refine tr_region ?_
                      refine tl_step rfl (oj_val (y_index Try.underlying105 Try.sizeOf121 (fe_t rfl) (fe_t rfl) (rdl_out hr) (lenN hn) (by decide) (by omega) rfl) ?_)
                      refine tl_step rfl (oj_val (y_ldA (cs := [(.int .i64 (n1 ns j)), (.int .i64 (n2 ns j))]) Try.isAgg121 Try.sizeOf121 (fe_t rfl) (rdl_out hr) rfl (by decide) (getN (by omega))) ?_)
                      refine tl_step rfl (oj_alloc Try.zeroValue121 (fun bn => ?_))
                      refine tl_step rfl (oj_storeW 0 Try.sizeOf121 (fe_t rfl) (fe_t rfl) rfl rfl rfl rfl rfl (?_))
                      refine tl_nil ?_
                      refine tx_then ?_
                      refine tr_seq ?_
                      refine tr_region ?_
                      refine tl_step rfl (oj_val (y_fieldAddr (td := 3) Try.underlying121 rfl rfl Try.sizeOf3 (o' := 0) rfl (fe_t rfl)) ?_)
                      refine tl_step rfl (oj_val (y_ldb 0 Try.isAgg3 (fe_t rfl) rfl rfl) ?_)
                      refine tl_step rfl (oj_val (y_move (fe_t rfl)) ?_)
                      refine tl_step rfl (oj_val (y_eq (fe_t rfl) (fe_t rfl)) ?_)
                      refine tl_nil ?_
                      refine tx_then ?_
                      refine tr_condp (fe_t rfl) (fun hq11 => ?_) (fun hq12 => ?_)
                      · try (exfalso; omega)
                        all_goals
                          refine tr_region ?_
                          refine tl_step rfl (oj_val (y_move (fe_t rfl)) ?_)
                          refine tl_step rfl (oj_val (y_add (fe_t rfl) fe_c (by omega)) ?_)
                          refine tl_step rfl (oj_val (y_assign (fe_t rfl)) ?_)
                          refine tl_nil ?_
                          refine tx_in ?_
                          refine tx_then ?_
                          refine tr_region ?_
                          refine tl_step rfl (oj_val (y_inc (fe_t rfl) fe_c (by omega)) ?_)
                          refine tl_step rfl (oj_val (y_move (fe_t rfl)) ?_)
                          refine tl_nil ?_
                          apply tx_back2 (j + 1) (_)
                          · exact (cov_cons (by first | rfl | exact v_int (by omega) | exact v_bool (by simp [*])) (cov_cons (by first | rfl | exact v_int (by omega) | exact v_bool (by simp [*])) (cov_nil)))
                          · repeat (first | exact over_nil | refine over_put rfl ?_ | refine over_drop rfl ?_)
                          · exact fun w h => h.pick [1, 2, 3, 4] _ rfl (by decide)
                          · exact ⟨⟨by omega, by rw [kidsTo_step, decide_eq_true (show t.u j = (k : Int) by rw [ht, trOf_u]; omega), cond_true, List.length_append, List.length_singleton]; omega⟩, by omega⟩
                      · try (exfalso; omega)
                        all_goals
                          refine tr_skip ?_
                          refine tx_in ?_
                          refine tx_then ?_
                          refine tr_region ?_
                          refine tl_step rfl (oj_val (y_inc (fe_t rfl) fe_c (by omega)) ?_)
                          refine tl_step rfl (oj_val (y_move (fe_t rfl)) ?_)
                          refine tl_nil ?_
                          apply tx_back2 (j + 1) (_)
                          · exact (cov_cons (by first | rfl | exact v_int (by omega) | exact v_bool (by simp [*])) (cov_cons (by first | rfl | exact v_int (by omega) | exact v_bool (by simp [*])) (cov_nil)))
                          · repeat (first | exact over_nil | refine over_put rfl ?_ | refine over_drop rfl ?_)
                          · exact fun w h => h.pick [1, 2, 3, 4] _ rfl (by decide)
                          · exact ⟨⟨by omega, by rw [kidsTo_step, decide_eq_false (show ¬ t.u j = (k : Int) by rw [ht, trOf_u]; omega), cond_false, List.append_nil]; omega⟩, by omega⟩
                  · try (exfalso; omega)
                    all_goals
                      refine tr_exit ?_
                      refine tx_then_exit ?_
                      refine tx_then_exit ?_
                      refine tx_in_exit ?_
                      refine tx_then ?_
                      refine tr_seq ?_
                      refine tr_region ?_
                      refine tl_step rfl (oj_val (y_move (fe_t rfl)) ?_)
                      refine tl_step rfl (oj_val (y_eq (fe_t rfl) fe_c) ?_)
                      refine tl_nil ?_
                      refine tx_then ?_
                      refine tr_condp (fe_t rfl) (fun hq13 => ?_) (fun hq14 => ?_)
                      · try (exfalso; omega)
                        all_goals
                          have hkn : t.kids k = [] := by have e1 : t.kids k = t.kidsTo j k := (by show t.kidsTo t.n k = _; rw [show t.n = j by omega]); rw [e1]; exact List.eq_nil_of_length_eq_zero (by omega)
                          refine tr_region ?_
                          refine tl_step rfl (oj_val (y_move (fe_t rfl)) ?_)
                          refine tl_step rfl (oj_val (y_move (fe_t rfl)) ?_)
                          refine tl_step rfl (oj_slice1 Try.underlying79 Try.sizeOf3 Try.zeroValue3 (fe_t rfl) (by decide) rfl (fun b1 => ?_))
                          refine tl_step rfl (oj_append (i := 1) (s := 1) (z := (.int .i64 0)) (bytes := 8) Try.underlying79 (by kernel_rfl) (fe_t rfl) (fe_t rfl) rfl (rdl_blk 0 rfl) rfl (by decide) (by first | exact oneI | exact oneF (fun _ => rfl) | exact fun u hu => List.all_eq_true.1 (show List.all _ (fun x => x.oneCell') = true from rfl) u hu | (intro u hu; revert u hu; simp [Value.oneCell'])) (by decide) ⟨by omega, by decide⟩ (fun Aa1 ca1 hca1 => ?_))
                          refine tl_step rfl (oj_val (y_assign (fe_t rfl)) ?_)
                          refine tl_nil ?_
                          refine tx_in ?_
                          refine tx_then ?_
                          refine tr_region ?_
                          refine tl_step rfl (oj_val (y_inc (fe_t rfl) fe_c (by omega)) ?_)
                          refine tl_step rfl (oj_val (y_move (fe_t rfl)) ?_)
                          refine tl_nil ?_
                          apply tx_back2 (k + 1) ((⟨_, _, _, _⟩ : Vs))
                          · exact (cov_cons (by first | rfl | exact v_int (by omega) | exact v_bool (by simp [*])) (cov_cons (by first | rfl | exact v_int (by omega) | exact v_bool (by simp [*])) (cov_nil)))
                          · repeat (first | exact over_nil | refine over_put rfl ?_ | refine over_drop rfl ?_)
                          · exact fun w h => h.pick [1, 2, 3, 4] _ rfl (by decide)
                          · refine ⟨⟨by omega, ?_⟩, by omega⟩
                            rw [leaves_step, decide_eq_true hkn]
                            exact ⟨by dsimp only; simp; omega, by dsimp only; rw [hzx]; simp [kI, cI]; rfl⟩
                      · try (exfalso; omega)
                        all_goals
                          have hkn : ¬ t.kids k = [] := by have e1 : t.kids k = t.kidsTo j k := (by show t.kidsTo t.n k = _; rw [show t.n = j by omega]); rw [e1]; intro e2; rw [e2] at hq0; simp at hq0; omega
                          refine tr_skip ?_
                          refine tx_in ?_
                          refine tx_then ?_
                          refine tr_region ?_
                          refine tl_step rfl (oj_val (y_inc (fe_t rfl) fe_c (by omega)) ?_)
                          refine tl_step rfl (oj_val (y_move (fe_t rfl)) ?_)
                          refine tl_nil ?_
                          apply tx_back2 (k + 1) ((⟨_, _, _, _⟩ : Vs))
                          · exact (cov_cons (by first | rfl | exact v_int (by omega) | exact v_bool (by simp [*])) (cov_cons (by first | rfl | exact v_int (by omega) | exact v_bool (by simp [*])) (cov_nil)))
                          · repeat (first | exact over_nil | refine over_put rfl ?_ | refine over_drop rfl ?_)
                          · exact fun w h => h.pick [0, 1, 2, 3] _ rfl (by decide)
                          · refine ⟨⟨by omega, ?_⟩, by omega⟩
                            rw [leaves_step, decide_eq_false hkn]
                            exact ⟨by dsimp only; simp; omega, by dsimp only; rw [hzx]; simp⟩
              · try (exfalso; omega)
                all_goals
                  refine tr_exit ?_
                  refine tx_then_exit ?_
                  refine tx_then_exit ?_
                  refine tx_in_exit ?_
                  refine tx_then ?_
                  refine tr_seq ?_
                  refine tr_seq ?_
                  refine tr_region ?_
                  refine tl_step rfl (oj_val (y_move (fe_t rfl)) ?_)
                  refine tl_step rfl (oj_val (y_move (fe_t rfl)) ?_)
                  refine tl_step rfl (oj_callv Try.call73 fe_f (fel_cons (fe_t rfl) (fel_cons (fe_t rfl) fel_nil)) (fun w' hS => same_ints (a := kI (leavesTo t n)) (b := kI (leavesTo t n)) rfl ⟨by rw [kI_len, h0.1, ← ht], by rw [h0.2, ← ht]⟩ ⟨by rw [kI_len, hzn, show k = n by omega], by rw [hzx, show k = n by omega]⟩ w' (hS.holds 3 _ rfl) (hS.holds 0 _ rfl) (by rw [kI_len]; omega)) ?_)
                  refine tl_step rfl (oj_val (y_not (fe_t rfl)) ?_)
                  refine tl_nil ?_
                  refine tx_then ?_
                  refine tr_condf (fe_t rfl) ?_
                  refine tr_skip ?_
                  refine tx_then ?_
                  refine tr_seq ?_
                  refine tr_seq ?_
                  refine tr_region ?_
                  refine tl_step rfl (oj_val (y_move (fe_t rfl)) ?_)
                  refine tl_step rfl (oj_val (y_lss (fe_t rfl) fe_c) ?_)
                  refine tl_step rfl (oj_val (y_move (fe_t rfl)) ?_)
                  refine tl_splitp (d := 127) rfl (fun hq15 => ?_) (fun hq16 => ?_)
                  · try (exfalso; omega)
                    all_goals
                      refine tl_skip rfl rfl rfl rfl ?_
                      refine tl_skip rfl rfl rfl rfl ?_
                      refine tl_skip rfl rfl rfl rfl ?_
                      refine tl_skip rfl rfl rfl rfl ?_
                      refine tl_step rfl (oj_val (y_pickt (fe_t rfl) fe_c) ?_)
                      refine tl_nil ?_
                      refine tx_then ?_
                      exfalso; omega
                  · try (exfalso; omega)
                    all_goals
                      refine tl_want rfl rfl rfl (oj_val (y_move (fe_t rfl)) ?_)
                      refine tl_want rfl rfl rfl (oj_val (y_move (fe_t rfl)) ?_)
                      refine tl_want rfl rfl rfl (oj_val (y_len Try.underlying105 (fe_t rfl)) ?_)
                      refine tl_want rfl rfl rfl (oj_val (y_geq (fe_t rfl) (fe_t rfl)) ?_)
                      refine tl_step rfl (oj_val (y_pickf (fe_t rfl) (fe_t rfl)) ?_)
                      refine tl_nil ?_
                      refine tx_then ?_
                      refine tr_condp (fe_t rfl) (fun hq17 => ?_) (fun hq18 => ?_)
                      · exfalso; omega
                      · try (exfalso; omega)
                        all_goals
                          refine tr_skip ?_
                          refine tx_then ?_
                          refine tr_seq ?_
                          refine tr_region ?_
                          refine tl_step rfl (oj_val (y_move (fe_t rfl)) ?_)
                          refine tl_step rfl (oj_val (y_move (fe_t rfl)) ?_)
                          refine tl_step rfl (oj_call Try.call89 fe_f (fel_cons (fe_t rfl) (fel_cons (fe_t rfl) fel_nil)) (fun w' hS => qpathE hn hm ht g a ha w' (Rd.below hr hS.below)) (fun r2 h2 => ?_))
                          refine tl_step rfl (oj_val (y_assign (fe_t rfl)) ?_)
                          refine tl_nil ?_
                          refine tx_then ?_
                          refine tr_seq ?_
                          refine tr_region ?_
                          refine tl_step rfl (oj_alloc Try.zeroValue23 (fun shb => ?_))
                          refine tl_nil ?_
                          refine tx_then ?_
                          refine tr_seq ?_
                          refine tr_add (r := bag [] [] []) bag_nil rfl ?_
                          refine tr_region ?_
                          refine tl_step rfl (oj_val (y_move (fe_t rfl)) ?_)
                          refine tl_step rfl (oj_val (y_move (fe_t rfl)) ?_)
                          refine tl_step rfl (oj_call2 Try.call90 fe_f (fel_cons (fe_t rfl) (fel_cons (fe_t rfl) fel_nil)) (fun w' hS => qshareE hn hm ht g hr a ha (hS.pick [0, 1, 2, 3, 4, 5, 6] [_, _, _, _, _, _, _] rfl (by decide))) ?_)
                          rintro ⟨o0, H0, D0, es0⟩ hq0; dsimp only at hq0 ⊢
                          refine tl_step rfl (oj_val (y_move (fe_t rfl)) ?_)
                          refine tl_step rfl (oj_val (y_extract (fe_t rfl) rfl) ?_)
                          refine tl_step rfl (oj_val (y_extract (fe_t rfl) rfl) ?_)
                          refine tl_step rfl (oj_val (y_assign (fe_t rfl)) ?_)
                          refine tl_step rfl (oj_val (y_assign (fe_t rfl)) ?_)
                          refine tl_nil ?_
                          refine tx_then ?_
                          refine tr_seq ?_
                          refine tr_seq ?_
                          refine tr_region ?_
                          refine tl_step rfl (oj_val (y_move (fe_t rfl)) ?_)
                          refine tl_step rfl (oj_val (y_eq (fe_t rfl) fe_c) ?_)
                          refine tl_nil ?_
                          refine tx_then ?_
                          refine tr_condp (fe_t rfl) (fun hq19 => ?_) (fun hq20 => ?_)
                          · try (exfalso; omega)
                            all_goals
                              obtain ⟨b0, xa, xb, hq1, mxa, mxb, hx⟩ := hq0.2 hs0
                              subst hq1
                              refine tr_region ?_
                              refine tl_step rfl (oj_val (y_move (fe_t rfl)) ?_)
                              refine tl_step rfl (oj_call2 Try.call21 fe_f (fel_cons (fe_t rfl) fel_nil) (fun w' hS => lift 0 hS rfl (fun T hS => bfracS g ha hs0 hS mxa mxb hx)) (fun rg hrg => ?_))
                              refine tl_step rfl (oj_val (y_move (fe_t rfl)) ?_)
                              refine tl_step rfl (oj_val (y_extract (fe_t rfl) rfl) ?_)
                              refine tl_step rfl (oj_val (y_extract (fe_t rfl) rfl) ?_)
                              refine tl_step rfl (oj_storeW 1 Try.sizeOf23 (fe_t rfl) (fe_t rfl) rfl rfl rfl rfl rfl (?_))
                              refine tl_nil ?_
                              refine tx_then ?_
                              refine tr_seq ?_
                              refine tr_seq ?_
                              refine tr_region ?_
                              refine tl_step rfl (oj_val (y_move (fe_t rfl)) ?_)
                              refine tl_step rfl (oj_val (y_neq (fe_t rfl) fe_c) ?_)
                              refine tl_step rfl (oj_val (y_move (fe_t rfl)) ?_)
                              refine tl_splitp (d := 177) rfl (fun hq21 => ?_) (fun hq22 => ?_)
                              · try (exfalso; omega)
                                all_goals
                                  refine tl_skip rfl rfl rfl rfl ?_
                                  refine tl_skip rfl rfl rfl rfl ?_
                                  refine tl_skip rfl rfl rfl rfl ?_
                                  refine tl_step rfl (oj_val (y_pickt (fe_t rfl) fe_c) ?_)
                                  refine tl_step rfl (oj_val (y_move (fe_t rfl)) ?_)
                                  refine tl_skip rfl rfl rfl rfl ?_
                                  refine tl_skip rfl rfl rfl rfl ?_
                                  refine tl_skip rfl rfl rfl rfl ?_
                                  refine tl_skip rfl rfl rfl rfl ?_
                                  refine tl_step rfl (oj_val (y_pickt (fe_t rfl) fe_c) ?_)
                                  refine tl_step rfl (oj_val (y_move (fe_t rfl)) ?_)
                                  refine tl_skip rfl rfl rfl rfl ?_
                                  refine tl_skip rfl rfl rfl rfl ?_
                                  refine tl_skip rfl rfl rfl rfl ?_
                                  refine tl_step rfl (oj_val (y_pickt (fe_t rfl) fe_c) ?_)
                                  refine tl_nil ?_
                                  refine tx_then ?_
                                  refine tr_condt (fe_t rfl) ?_
                                  refine tr_seq ?_
                                  refine tr_region ?_
                                  refine tl_step rfl (oj_val (y_assign fe_c) ?_)
                                  refine tl_nil ?_
                                  refine tx_then ?_
                                  refine tr_ret ?_
                                  refine tx_then_ret ?_
                                  refine tx_ret (res1 Try.results12 (rok_t rfl)) (fun w' hS => ?_)
                                  exact ⟨ret_bool (by first | rfl | exact decide_eq_true hfin | (simp; done) | (simp [*]; done)), hS.pick [] _ rfl (by decide)⟩
                              · try (exfalso; omega)
                                all_goals
                                  refine tl_want rfl rfl rfl (oj_val (y_move (fe_t rfl)) ?_)
                                  refine tl_want rfl rfl rfl (oj_val (y_move (fe_t rfl)) ?_)
                                  refine tl_want rfl rfl rfl (oj_val (y_neq (fe_t rfl) (fe_t rfl)) ?_)
                                  refine tl_step rfl (oj_val (y_pickf (fe_t rfl) (fe_t rfl)) ?_)
                                  refine tl_step rfl (oj_val (y_move (fe_t rfl)) ?_)
                                  refine tl_splitp (d := 182) rfl (fun hq23 => ?_) (fun hq24 => ?_)
                                  · try (exfalso; omega)
                                    all_goals
                                      refine tl_skip rfl rfl rfl rfl ?_
                                      refine tl_skip rfl rfl rfl rfl ?_
                                      refine tl_skip rfl rfl rfl rfl ?_
                                      refine tl_skip rfl rfl rfl rfl ?_
                                      refine tl_step rfl (oj_val (y_pickt (fe_t rfl) fe_c) ?_)
                                      refine tl_step rfl (oj_val (y_move (fe_t rfl)) ?_)
                                      refine tl_skip rfl rfl rfl rfl ?_
                                      refine tl_skip rfl rfl rfl rfl ?_
                                      refine tl_skip rfl rfl rfl rfl ?_
                                      refine tl_step rfl (oj_val (y_pickt (fe_t rfl) fe_c) ?_)
                                      refine tl_nil ?_
                                      refine tx_then ?_
                                      refine tr_condt (fe_t rfl) ?_
                                      refine tr_seq ?_
                                      refine tr_region ?_
                                      refine tl_step rfl (oj_val (y_assign fe_c) ?_)
                                      refine tl_nil ?_
                                      refine tx_then ?_
                                      refine tr_ret ?_
                                      refine tx_then_ret ?_
                                      refine tx_ret (res1 Try.results12 (rok_t rfl)) (fun w' hS => ?_)
                                      exact ⟨ret_bool (by first | rfl | exact decide_eq_true hfin | (simp; done) | (simp [*]; done)), hS.pick [] _ rfl (by decide)⟩
                                  · try (exfalso; omega)
                                    all_goals
                                      refine tl_want rfl rfl rfl (oj_val (y_move (fe_t rfl)) ?_)
                                      refine tl_want rfl rfl rfl (oj_val (y_move (fe_t rfl)) ?_)
                                      refine tl_want rfl rfl rfl (oj_callv Try.call73 fe_f (fel_cons (fe_t rfl) (fel_cons (fe_t rfl) fel_nil)) (fun w' hS => same_ints (a := kI (path t a)) (b := kI (path t a)) rfl ⟨by rw [kI_len]; exact h1.1, h1.2⟩ ⟨by rw [kI_len]; exact h2.1, h2.2⟩ w' (hS.holds 5 _ rfl) (hS.holds 2 _ rfl) (by rw [kI_len]; omega)) ?_)
                                      refine tl_want rfl rfl rfl (oj_val (y_not (fe_t rfl)) ?_)
                                      refine tl_step rfl (oj_val (y_pickf (fe_t rfl) (fe_t rfl)) ?_)
                                      refine tl_step rfl (oj_val (y_move (fe_t rfl)) ?_)
                                      refine tl_want rfl rfl rfl (oj_val (y_ldbA 4 Try.isAgg23 Try.sizeOf23 (fe_t rfl) rfl rfl rfl) ?_)
                                      refine tl_want rfl rfl rfl (oj_val (y_ldbA 1 Try.isAgg23 Try.sizeOf23 (fe_t rfl) rfl rfl rfl) ?_)
                                      refine tl_want rfl rfl rfl (oj_val (y_binop (fe_t rfl) (fe_t rfl) (fun w => nefr _ _ w)) ?_)
                                      refine tl_step rfl (oj_val (y_pickf (fe_t rfl) (fe_t rfl)) ?_)
                                      refine tl_nil ?_
                                      refine tx_then ?_
                                      refine tr_condf (fe_t rfl) ?_
                                      refine tr_skip ?_
                                      refine tx_then ?_
                                      refine tr_seq ?_
                                      refine tr_seq ?_
                                      refine tr_region ?_
                                      refine tl_step rfl (oj_val (y_move (fe_t rfl)) ?_)
                                      refine tl_step rfl (oj_val (y_lss (fe_t rfl) fe_c) ?_)
                                      refine tl_step rfl (oj_val (y_move (fe_t rfl)) ?_)
                                      refine tl_splitp (d := 195) rfl (fun hq25 => ?_) (fun hq26 => ?_)
                                      · try (exfalso; omega)
                                        all_goals
                                          refine tl_skip rfl rfl rfl rfl ?_
                                          refine tl_skip rfl rfl rfl rfl ?_
                                          refine tl_skip rfl rfl rfl rfl ?_
                                          refine tl_skip rfl rfl rfl rfl ?_
                                          refine tl_step rfl (oj_val (y_pickt (fe_t rfl) fe_c) ?_)
                                          refine tl_nil ?_
                                          refine tx_then ?_
                                          exfalso; omega
                                      · try (exfalso; omega)
                                        all_goals
                                          refine tl_want rfl rfl rfl (oj_val (y_move (fe_t rfl)) ?_)
                                          refine tl_want rfl rfl rfl (oj_val (y_move (fe_t rfl)) ?_)
                                          refine tl_want rfl rfl rfl (oj_val (y_len Try.underlying105 (fe_t rfl)) ?_)
                                          refine tl_want rfl rfl rfl (oj_val (y_geq (fe_t rfl) (fe_t rfl)) ?_)
                                          refine tl_step rfl (oj_val (y_pickf (fe_t rfl) (fe_t rfl)) ?_)
                                          refine tl_nil ?_
                                          refine tx_then ?_
                                          refine tr_condp (fe_t rfl) (fun hq27 => ?_) (fun hq28 => ?_)
                                          · exfalso; omega
                                          · try (exfalso; omega)
                                            all_goals
                                              refine tr_skip ?_
                                              refine tx_then ?_
                                              refine tr_seq ?_
                                              refine tr_region ?_
                                              refine tl_step rfl (oj_val (y_move (fe_t rfl)) ?_)
                                              refine tl_step rfl (oj_val (y_move (fe_t rfl)) ?_)
                                              refine tl_step rfl (oj_call Try.call89 fe_f (fel_cons (fe_t rfl) (fel_cons (fe_t rfl) fel_nil)) (fun w' hS => qpathE hn hm ht g b hb w' (Rd.below hr hS.below)) (fun r4 h4 => ?_))
                                              refine tl_step rfl (oj_val (y_assign (fe_t rfl)) ?_)
                                              refine tl_nil ?_
                                              refine tx_then ?_
                                              refine tr_seq ?_
                                              refine tr_region ?_
                                              refine tl_step rfl (oj_val (y_assign fe_c) ?_)
                                              refine tl_nil ?_
                                              refine tx_then ?_
                                              refine tr_seq ?_
                                              refine tr_seq ?_
                                              refine tr_as (r' := vec 3 1 (.slice r2.A r2.n r2.c) r2.n (cI (kI (path t a)))) 3 rfl (congrArg (vec _ _ _ _) h2.2) ?_
                                              have h21 := h2.1
                                              have hmp := hME.pos
                                              have hml := hME.le
                                              refine tr_region ?_
                                              refine tl_step rfl (oj_val (y_move (fe_t rfl)) ?_)
                                              refine tl_step rfl (oj_val (y_len Try.underlying79 (fe_t rfl)) ?_)
                                              refine tl_step rfl (oj_val (y_move fe_c) ?_)
                                              refine tl_nil ?_
                                              refine tx_then ?_
                                              refine tr_block ?_
                                              refine tr_loop2 [26, 28, 212, 213, 214, 215, 216, 217, 218, 219, 220] (fun (i : Nat) (la : Int) => [(212, .int .i64 (i : Int)), (26, .int .i64 la)]) 0 (fun (i : Nat) (la : Int) => []) (fun (i : Nat) (la : Int) => i ≤ (path t a).length ∧ la = lastv (path t a) m0 i) (fun (i : Nat) (la : Int) => (path t a).length - i) (0) (0) (cov_cons (by first | rfl | exact v_int (by omega) | exact v_bool (by simp [*])) (cov_cons (by first | rfl | exact v_int (by omega) | exact v_bool (by simp [*])) (cov_nil))) (fun w h => h) ?_ ?_
                                              · try dsimp only
                                                exact ⟨by omega, rfl⟩
                                              intro i la hp
                                              obtain ⟨hi, hla⟩ := hp
                                              refine tr_seq ?_
                                              refine tr_region ?_
                                              refine tl_step rfl (oj_val (y_lss (fe_t rfl) (fe_t rfl)) ?_)
                                              refine tl_nil ?_
                                              refine tx_then ?_
                                              refine tr_seq ?_
                                              refine tr_condp (fe_t rfl) (fun hq29 => ?_) (fun hq30 => ?_)
                                              · try (exfalso; omega)
                                                all_goals
                                                  refine tr_skip ?_
                                                  refine tx_then ?_
                                                  refine tr_seq ?_
                                                  refine tr_block ?_
                                                  refine tr_seq ?_
                                                  refine tr_region ?_
                                                  refine tl_step rfl (oj_val (y_index Try.underlying79 Try.sizeOf3 (fe_t rfl) (fe_t rfl) (rdl_vec 3 rfl) (by simp [cI, kI_len]; omega) (by decide) (by omega) (Nat.mul_one _)) ?_)
                                                  refine tl_step rfl (oj_val (y_ld Try.isAgg3 (fe_t rfl) (rdl_vec 3 rfl) (getC (by rw [kI_len]; omega))) ?_)
                                                  refine tl_step rfl (oj_val (y_assign (fe_t rfl)) ?_)
                                                  refine tl_nil ?_
                                                  refine tx_then ?_
                                                  refine tr_seq ?_
                                                  obtain ⟨v, hv⟩ : ∃ v : Nat, v = (path t a).getD i 0 := ⟨_, rfl⟩
                                                  have hvi : (kI (path t a)).getD i 0 = (v : Int) := by rw [kI_at (by omega), hv]
                                                  rw [hvi]
                                                  refine tr_region ?_
                                                  refine tl_step rfl (oj_val (y_move (fe_t rfl)) ?_)
                                                  refine tl_step rfl (oj_val (y_move (fe_t rfl)) ?_)
                                                  refine tl_step rfl (oj_callv Try.call91 fe_f (fel_cons (fe_t rfl) (fel_cons (fe_t rfl) fel_nil)) (fun w' hS => contV (a := kI (path t b)) ⟨by rw [kI_len]; exact h4.1, h4.2⟩ w' (hS.holds 0 _ rfl) (by rw [kI_len]; omega)) ?_)
                                                  refine tl_nil ?_
                                                  refine tx_then ?_
                                                  refine tr_condp (fe_t rfl) (fun hq31 => ?_) (fun hq32 => ?_)
                                                  · try (exfalso; omega)
                                                    all_goals
                                                      have hmem : v ∈ path t b := mem_kI.1 hq31
                                                      have him : i < m0 := by
                                                        rcases Nat.lt_or_ge i m0 with h | h
                                                        · exact h
                                                        · exact absurd (hv ▸ hmem) (meet_not g ha hb hME h (by omega))
                                                      refine tr_region ?_
                                                      refine tl_step rfl (oj_val (y_move (fe_t rfl)) ?_)
                                                      refine tl_step rfl (oj_val (y_assign (fe_t rfl)) ?_)
                                                      refine tl_nil ?_
                                                      refine tx_in ?_
                                                      refine tx_then ?_
                                                      refine tr_region ?_
                                                      refine tl_step rfl (oj_val (y_inc (fe_t rfl) fe_c (by omega)) ?_)
                                                      refine tl_step rfl (oj_val (y_move (fe_t rfl)) ?_)
                                                      refine tl_nil ?_
                                                      apply tx_back2 (i + 1) (_)
                                                      · exact (cov_cons (by first | rfl | exact v_int (by omega) | exact v_bool (by simp [*])) (cov_cons (by first | rfl | exact v_int (by omega) | exact v_bool (by simp [*])) (cov_nil)))
                                                      · repeat (first | exact over_nil | refine over_put rfl ?_ | refine over_drop rfl ?_)
                                                      · exact fun w h => h.pick [0, 1, 2, 3, 4, 5, 6, 7] _ rfl (by decide)
                                                      · exact ⟨⟨by omega, by unfold lastv; rw [if_neg (by omega), show min (i + 1) m0 - 1 = i by omega, hv]⟩, by omega⟩
                                                  · try (exfalso; omega)
                                                    all_goals
                                                      have hmem : v ∉ path t b := fun h0 => absurd (mem_kI.2 h0) hq32
                                                      have him : m0 ≤ i := by
                                                        rcases Nat.lt_or_ge i m0 with h | h
                                                        · exact absurd (by rw [hv, hME.same i h]; exact mem_path (by omega)) hmem
                                                        · exact h
                                                      refine tr_skip ?_
                                                      refine tx_in ?_
                                                      refine tx_then ?_
                                                      refine tr_region ?_
                                                      refine tl_step rfl (oj_val (y_inc (fe_t rfl) fe_c (by omega)) ?_)
                                                      refine tl_step rfl (oj_val (y_move (fe_t rfl)) ?_)
                                                      refine tl_nil ?_
                                                      apply tx_back2 (i + 1) (_)
                                                      · exact (cov_cons (by first | rfl | exact v_int (by omega) | exact v_bool (by simp [*])) (cov_cons (by first | rfl | exact v_int (by omega) | exact v_bool (by simp [*])) (cov_nil)))
                                                      · repeat (first | exact over_nil | refine over_put rfl ?_ | refine over_drop rfl ?_)
                                                      · exact fun w h => h.pick [0, 1, 2, 3, 4, 5, 6, 7] _ rfl (by decide)
                                                      · exact ⟨⟨by omega, by rw [hla]; unfold lastv; rw [if_neg (by omega), if_neg (by omega), show min (i + 1) m0 = min i m0 by omega]⟩, by omega⟩
                                              · try (exfalso; omega)
                                                all_goals
                                                  refine tr_exit ?_
                                                  refine tx_then_exit ?_
                                                  refine tx_then_exit ?_
                                                  refine tx_in_exit ?_
                                                  refine tx_then ?_
                                                  refine tr_seq ?_
                                                  have hfin : (((path t a).getD (m0 - 1) 0 : Nat) : Int) = la := by rw [hla]; unfold lastv; rw [if_neg (by omega), show min i m0 - 1 = m0 - 1 by omega]
                                                  refine tr_region ?_
                                                  refine tl_step rfl (oj_val (y_move (fe_t rfl)) ?_)
                                                  refine tl_step rfl (oj_val (y_eq (fe_t rfl) fe_c) ?_)
                                                  refine tl_step rfl (oj_val (y_move (fe_t rfl)) ?_)
                                                  refine tl_splitp (d := 223) rfl (fun hq33 => ?_) (fun hq34 => ?_)
                                                  · try (exfalso; omega)
                                                    all_goals
                                                      refine tl_want rfl rfl rfl (oj_val (y_move (fe_t rfl)) ?_)
                                                      refine tl_want rfl rfl rfl (oj_val (y_move (fe_t rfl)) ?_)
                                                      refine tl_want rfl rfl rfl (oj_val (y_eq (fe_t rfl) (fe_t rfl)) ?_)
                                                      refine tl_step rfl (oj_val (y_pickt (fe_t rfl) (fe_t rfl)) ?_)
                                                      refine tl_step rfl (oj_val (y_assign (fe_t rfl)) ?_)
                                                      refine tl_nil ?_
                                                      refine tx_then ?_
                                                      refine tr_ret ?_
                                                      refine tx_ret (res1 Try.results12 (rok_t rfl)) (fun w' hS => ?_)
                                                      exact ⟨ret_bool (by first | rfl | exact decide_eq_true hfin | (simp; done) | (simp [*]; done)), hS.pick [] _ rfl (by decide)⟩
                                                  · try (exfalso; omega)
                                                    all_goals
                                                      refine tl_skip rfl rfl rfl rfl ?_
                                                      refine tl_skip rfl rfl rfl rfl ?_
                                                      refine tl_skip rfl rfl rfl rfl ?_
                                                      refine tl_step rfl (oj_val (y_pickf (fe_t rfl) fe_c) ?_)
                                                      refine tl_step rfl (oj_val (y_assign (fe_t rfl)) ?_)
                                                      refine tl_nil ?_
                                                      refine tx_then ?_
                                                      refine tr_ret ?_
                                                      refine tx_ret (res1 Try.results12 (rok_t rfl)) (fun w' hS => ?_)
                                                      exact ⟨ret_bool (by first | rfl | exact decide_eq_true hfin | (simp; done) | (simp [*]; done)), hS.pick [] _ rfl (by decide)⟩
                          · exfalso; omega

set_option maxRecDepth 100000 in
set_option maxHeartbeats 4000000 in
theorem law_2ok (A : Option Addr) (n c : Nat) (ns : List (Int × Int)) (w : World) (hr : Rd w A (ns.flatMap c2)) (hn : ns.length = n) (hm : n ≤ 140737488355328) {t : Tr} (ht : t = trOf ns) (g : t.Good) {a b : Nat} (hw : wrongT ns = 0) (ha : a < t.n) (hs0 : ¬ (share t a).2.2 = 0) (hb : b < t.n) :
    Calls Try.prog 12 #[.slice A n c, (.int .i64 ((a : Int))), (.int .i64 ((b : Int)))] w fun e w' => e = .returned (.bool true) ∧ St w w' [] := by
  have htn : t.n = n := by rw [ht, trOf_n, hn]
  have hn16 := g.n16
  have hn1 := g.n1
  have hlvs := leaves_len (t := t) (k := n)
  have hpa := path_len g a ha
  have hpb := path_len g b hb
  refine calls_tr Try.func12 Try.ntmps12 rfl rfl (St.refl _) ?_
  refine tr_seq ?_
  refine tr_region ?_
  refine tl_step rfl (oj_val (y_assign fe_c) ?_)
  refine tl_nil ?_
  refine tx_then ?_
  refine tr_seq ?_
  refine tr_region ?_
  refine tl_step rfl (oj_val (y_move (fe_t rfl)) ?_)
  refine tl_step rfl (oj_call Try.call84 fe_f (fel_cons (fe_t rfl) fel_nil) (fun w' hS => leaves_ok A n c ns w' (Rd.below hr hS.below) hn hm hw) (fun r0 h0 => ?_))
  refine tl_step rfl (oj_val (y_move (fe_t rfl)) ?_)
  refine tl_step rfl (oj_val (y_extract (fe_t rfl) rfl) ?_)
  refine tl_step rfl (oj_val (y_extract (fe_t rfl) rfl) ?_)
  refine tl_step rfl (oj_val (y_assign (fe_t rfl)) ?_)
  refine tl_step rfl (oj_val (y_assign (fe_t rfl)) ?_)
  refine tl_nil ?_
  refine tx_then ?_
  refine tr_seq ?_
  refine tr_region ?_
  refine tl_step rfl (oj_val (y_move (fe_t rfl)) ?_)
  refine tl_step rfl (oj_val (y_move (fe_t rfl)) ?_)
  refine tl_step rfl (oj_call Try.call85 fe_f (fel_cons (fe_t rfl) (fel_cons (fe_t rfl) fel_nil)) (fun w' hS => path_ok A n c ns w' (Rd.below hr hS.below) hn hm ht g hw (a := a) ha) (fun r1 h1 => ?_))
  refine tl_step rfl (oj_val (y_move (fe_t rfl)) ?_)
  refine tl_step rfl (oj_val (y_extract (fe_t rfl) rfl) ?_)
  refine tl_step rfl (oj_val (y_extract (fe_t rfl) rfl) ?_)
  refine tl_step rfl (oj_val (y_assign (fe_t rfl)) ?_)
  refine tl_step rfl (oj_val (y_assign (fe_t rfl)) ?_)
  refine tl_nil ?_
  refine tx_then ?_
  refine tr_seq ?_
  refine tr_region ?_
  refine tl_step rfl (oj_val (y_move (fe_t rfl)) ?_)
  refine tl_step rfl (oj_val (y_move (fe_t rfl)) ?_)
  refine tl_step rfl (oj_callv Try.call86 fe_f (fel_cons (fe_t rfl) (fel_cons (fe_t rfl) fel_nil)) (fun w' hS => share_bad_ A n c ns w' (Rd.below hr hS.below) hn hm ht g hw (a := a) ha hs0) ?_)
  refine tl_step rfl (oj_val (y_move (fe_t rfl)) ?_)
  refine tl_step rfl (oj_val (y_extract (fe_t rfl) rfl) ?_)
  refine tl_step rfl (oj_val (y_extract (fe_t rfl) rfl) ?_)
  refine tl_step rfl (oj_alloc Try.zeroValue23 (fun sb => ?_))
  refine tl_step rfl (oj_storeW 0 Try.sizeOf23 (fe_t rfl) (fe_t rfl) rfl rfl rfl rfl rfl (?_))
  refine tl_step rfl (oj_val (y_assign (fe_t rfl)) ?_)
  refine tl_nil ?_
  refine tx_then ?_
  refine tr_seq ?_
  refine tr_region ?_
  refine tl_step rfl (oj_val (y_move (fe_t rfl)) ?_)
  refine tl_step rfl (oj_val (y_move (fe_t rfl)) ?_)
  refine tl_step rfl (oj_val (y_move (fe_t rfl)) ?_)
  refine tl_step rfl (oj_call Try.call87 fe_f (fel_cons (fe_t rfl) (fel_cons (fe_t rfl) (fel_cons (fe_t rfl) fel_nil))) (fun w' hS => meet_ok_ A n c ns w' (Rd.below hr hS.below) hn hm ht g hw (a := a) (b := b) ha hb) (fun m0 hME => ?_))
  refine tl_step rfl (oj_val (y_move (fe_t rfl)) ?_)
  refine tl_step rfl (oj_val (y_extract (fe_t rfl) rfl) ?_)
  refine tl_step rfl (oj_val (y_extract (fe_t rfl) rfl) ?_)
  refine tl_step rfl (oj_val (y_assign (fe_t rfl)) ?_)
  refine tl_step rfl (oj_val (y_assign (fe_t rfl)) ?_)
  refine tl_nil ?_
  refine tx_then ?_
  refine tr_seq ?_
  refine tr_region ?_
  refine tl_step rfl (oj_val (y_move (fe_t rfl)) ?_)
  refine tl_step rfl (oj_callv Try.call75 fe_f (fel_cons (fe_t rfl) fel_nil) (fun w' hS => qWrongE A n c ns w' (Rd.below hr hS.below) hn hm) ?_)
  refine tl_step rfl (oj_val (y_assign (fe_t rfl)) ?_)
  refine tl_nil ?_
  refine tx_then ?_
  refine tr_seq ?_
  refine tr_seq ?_
  refine tr_region ?_
  refine tl_step rfl (oj_val (y_move (fe_t rfl)) ?_)
  refine tl_step rfl (oj_callv Try.call88 fe_f (fel_cons (fe_t rfl) fel_nil) (fun w' hS => treeWrongE A n c ns w' (Rd.below hr hS.below) hn hm) ?_)
  refine tl_step rfl (oj_val (y_move (fe_t rfl)) ?_)
  refine tl_step rfl (oj_val (y_neq (fe_t rfl) (fe_t rfl)) ?_)
  refine tl_step rfl (oj_val (y_move (fe_t rfl)) ?_)
  refine tl_splitp (d := 59) rfl (fun hq1 => ?_) (fun hq2 => ?_)
  · try (exfalso; omega)
    all_goals
      refine tl_skip rfl rfl rfl rfl ?_
      refine tl_skip rfl rfl rfl rfl ?_
      refine tl_skip rfl rfl rfl rfl ?_
      refine tl_step rfl (oj_val (y_pickt (fe_t rfl) fe_c) ?_)
      refine tl_nil ?_
      refine tx_then ?_
      exfalso; omega
  · try (exfalso; omega)
    all_goals
      refine tl_want rfl rfl rfl (oj_val (y_move (fe_t rfl)) ?_)
      refine tl_want rfl rfl rfl (oj_val (y_move (fe_t rfl)) ?_)
      refine tl_want rfl rfl rfl (oj_val (y_neq (fe_t rfl) (fe_t rfl)) ?_)
      refine tl_step rfl (oj_val (y_pickf (fe_t rfl) (fe_t rfl)) ?_)
      refine tl_nil ?_
      refine tx_then ?_
      refine tr_condp (fe_t rfl) (fun hq3 => ?_) (fun hq4 => ?_)
      · exfalso; omega
      · try (exfalso; omega)
        all_goals
          refine tr_skip ?_
          refine tx_then ?_
          refine tr_seq ?_
          refine tr_seq ?_
          refine tr_region ?_
          refine tl_step rfl (oj_val (y_move (fe_t rfl)) ?_)
          refine tl_step rfl (oj_val (y_neq (fe_t rfl) fe_c) ?_)
          refine tl_nil ?_
          refine tx_then ?_
          refine tr_condp (fe_t rfl) (fun hq5 => ?_) (fun hq6 => ?_)
          · exact absurd hw hq5
          · try (exfalso; omega)
            all_goals
              refine tr_skip ?_
              refine tx_then ?_
              refine tr_seq ?_
              refine tr_region ?_
              refine tl_step rfl (oj_val (y_assign fe_c) ?_)
              refine tl_nil ?_
              refine tx_then ?_
              refine tr_seq ?_
              refine tr_seq ?_
              refine tr_region ?_
              refine tl_step rfl (oj_val (y_move (fe_t rfl)) ?_)
              refine tl_step rfl (oj_val (y_len Try.underlying105 (fe_t rfl)) ?_)
              refine tl_step rfl (oj_val (y_move fe_c) ?_)
              refine tl_nil ?_
              refine tx_then ?_
              refine tr_block ?_
              refine tr_add (r := vec 3 1 (.slice none 0 0) 0 []) vec_nil rfl ?_
              refine tr_loop2 [16, 17, 18, 20, 98, 99, 100, 101, 102, 103, 104, 105, 106, 107, 108, 109, 110, 111, 112, 113, 114, 115, 116, 117, 118, 119, 120] (fun (k : Nat) (z1 : Vs) => [(98, .int .i64 (k : Int)), (16, .slice z1.A z1.n z1.c)]) 0 (fun (k : Nat) (z1 : Vs) => [(0, vec 3 1 (.slice z1.A z1.n z1.c) z1.n z1.xs)]) (fun (k : Nat) (z1 : Vs) => k ≤ n ∧ z1.n = (leavesTo t k).length ∧ z1.xs = cI (kI (leavesTo t k))) (fun (k : Nat) (z1 : Vs) => n - k) (0) (⟨none, 0, 0, []⟩ : Vs) (cov_cons (by first | rfl | exact v_int (by omega) | exact v_bool (by simp [*])) (cov_cons (by first | rfl | exact v_int (by omega) | exact v_bool (by simp [*])) (cov_nil))) (fun w h => h) ?_ ?_
              · try dsimp only
                exact ⟨by omega, rfl, rfl⟩
              intro k z1 hp
              obtain ⟨hk, hzn, hzx⟩ := hp
              have hll := leaves_len (t := t) (k := k)
              refine tr_seq ?_
              refine tr_region ?_
              refine tl_step rfl (oj_val (y_lss (fe_t rfl) (fe_t rfl)) ?_)
              refine tl_nil ?_
              refine tx_then ?_
              refine tr_seq ?_
              refine tr_condp (fe_t rfl) (fun hq7 => ?_) (fun hq8 => ?_)
              · try (exfalso; omega)
                all_goals
                  refine tr_skip ?_
                  refine tx_then ?_
                  refine tr_seq ?_
                  refine tr_block ?_
                  refine tr_seq ?_
                  refine tr_region ?_
                  refine tl_step rfl (oj_val (y_move (fe_t rfl)) ?_)
                  refine tl_step rfl (oj_val (y_assign (fe_t rfl)) ?_)
                  refine tl_nil ?_
                  refine tx_then ?_
                  refine tr_seq ?_
                  refine tr_region ?_
                  refine tl_step rfl (oj_val (y_assign fe_c) ?_)
                  refine tl_nil ?_
                  refine tx_then ?_
                  refine tr_seq ?_
                  refine tr_seq ?_
                  refine tr_region ?_
                  refine tl_step rfl (oj_val (y_move (fe_t rfl)) ?_)
                  refine tl_step rfl (oj_val (y_len Try.underlying105 (fe_t rfl)) ?_)
                  refine tl_step rfl (oj_val (y_move fe_c) ?_)
                  refine tl_nil ?_
                  refine tx_then ?_
                  refine tr_block ?_
                  refine tr_loop2 [18, 20, 103, 104, 105, 106, 107, 108, 109, 110, 111, 112, 113] (fun (j : Nat) (q : Int) => [(103, .int .i64 (j : Int)), (18, .int .i64 q)]) 0 (fun (j : Nat) (q : Int) => []) (fun (j : Nat) (q : Int) => j ≤ n ∧ q = ((t.kidsTo j k).length : Int)) (fun (j : Nat) (q : Int) => n - j) (0) (0) (cov_cons (by first | rfl | exact v_int (by omega) | exact v_bool (by simp [*])) (cov_cons (by first | rfl | exact v_int (by omega) | exact v_bool (by simp [*])) (cov_nil))) (fun w h => h) ?_ ?_
                  · try dsimp only
                    exact ⟨by omega, rfl⟩
                  intro j q hp
                  obtain ⟨hj, hq0⟩ := hp
                  have hkl := kidsTo_len (t := t) (m := j) (k := k)
                  refine tr_seq ?_
                  refine tr_region ?_
                  refine tl_step rfl (oj_val (y_lss (fe_t rfl) (fe_t rfl)) ?_)
                  refine tl_nil ?_
                  refine tx_then ?_
                  refine tr_seq ?_
                  refine tr_condp (fe_t rfl) (fun hq9 => ?_) (fun hq10 => ?_)
                  · try (exfalso; omega)
                    all_goals
                      refine tr_skip ?_
                      refine tx_then ?_
                      refine tr_seq ?_
                      refine tr_block ?_
                      refine tr_seq ?_
                      refine tr_region ?_
                      refine tl_step rfl (oj_val (y_index Try.underlying105 Try.sizeOf121 (fe_t rfl) (fe_t rfl) (rdl_out hr) (lenN hn) (by decide) (by omega) rfl) ?_)
                      refine tl_step rfl (oj_val (y_ldA (cs := [(.int .i64 (n1 ns j)), (.int .i64 (n2 ns j))]) Try.isAgg121 Try.sizeOf121 (fe_t rfl) (rdl_out hr) rfl (by decide) (getN (by omega))) ?_)
                      refine tl_step rfl (oj_alloc Try.zeroValue121 (fun bn => ?_))
                      refine tl_step rfl (oj_storeW 0 Try.sizeOf121 (fe_t rfl) (fe_t rfl) rfl rfl rfl rfl rfl (?_))
                      refine tl_nil ?_
                      refine tx_then ?_
                      refine tr_seq ?_
                      refine tr_region ?_
                      refine tl_step rfl (oj_val (y_fieldAddr (td := 3) Try.underlying121 rfl rfl Try.sizeOf3 (o' := 0) rfl (fe_t rfl)) ?_)
                      refine tl_step rfl (oj_val (y_ldb 0 Try.isAgg3 (fe_t rfl) rfl rfl) ?_)
                      refine tl_step rfl (oj_val (y_move (fe_t rfl)) ?_)
                      refine tl_step rfl (oj_val (y_eq (fe_t rfl) (fe_t rfl)) ?_)
                      refine tl_nil ?_
                      refine tx_then ?_
                      refine tr_condp (fe_t rfl) (fun hq11 => ?_) (fun hq12 => ?_)
                      · try (exfalso; omega)
                        all_goals
                          refine tr_region ?_
                          refine tl_step rfl (oj_val (y_move (fe_t rfl)) ?_)
                          refine tl_step rfl (oj_val (y_add (fe_t rfl) fe_c (by omega)) ?_)
                          refine tl_step rfl (oj_val (y_assign (fe_t rfl)) ?_)
                          refine tl_nil ?_
                          refine tx_in ?_
                          refine tx_then ?_
                          refine tr_region ?_
                          refine tl_step rfl (oj_val (y_inc (fe_t rfl) fe_c (by omega)) ?_)
                          refine tl_step rfl (oj_val (y_move (fe_t rfl)) ?_)
                          refine tl_nil ?_
                          apply tx_back2 (j + 1) (_)
                          · exact (cov_cons (by first | rfl | exact v_int (by omega) | exact v_bool (by simp [*])) (cov_cons (by first | rfl | exact v_int (by omega) | exact v_bool (by simp [*])) (cov_nil)))
                          · repeat (first | exact over_nil | refine over_put rfl ?_ | refine over_drop rfl ?_)
                          · exact fun w h => h.pick [1, 2, 3, 4] _ rfl (by decide)
                          · exact ⟨⟨by omega, by rw [kidsTo_step, decide_eq_true (show t.u j = (k : Int) by rw [ht, trOf_u]; omega), cond_true, List.length_append, List.length_singleton]; omega⟩, by omega⟩
                      · try (exfalso; omega)
                        all_goals
                          refine tr_skip ?_
                          refine tx_in ?_
                          refine tx_then ?_
                          refine tr_region ?_
                          refine tl_step rfl (oj_val (y_inc (fe_t rfl) fe_c (by omega)) ?_)
                          refine tl_step rfl (oj_val (y_move (fe_t rfl)) ?_)
                          refine tl_nil ?_
                          apply tx_back2 (j + 1) (_)
                          · exact (cov_cons (by first | rfl | exact v_int (by omega) | exact v_bool (by simp [*])) (cov_cons (by first | rfl | exact v_int (by omega) | exact v_bool (by simp [*])) (cov_nil)))
                          · repeat (first | exact over_nil | refine over_put rfl ?_ | refine over_drop rfl ?_)
                          · exact fun w h => h.pick [1, 2, 3, 4] _ rfl (by decide)
                          · exact ⟨⟨by omega, by rw [kidsTo_step, decide_eq_false (show ¬ t.u j = (k : Int) by rw [ht, trOf_u]; omega), cond_false, List.append_nil]; omega⟩, by omega⟩
                  · try (exfalso; omega)
                    all_goals
                      refine tr_exit ?_
                      refine tx_then_exit ?_
                      refine tx_then_exit ?_
                      refine tx_in_exit ?_
                      refine tx_then ?_
                      refine tr_seq ?_
                      refine tr_region ?_
                      refine tl_step rfl (oj_val (y_move (fe_t rfl)) ?_)
                      refine tl_step rfl (oj_val (y_eq (fe_t rfl) fe_c) ?_)
                      refine tl_nil ?_
                      refine tx_then ?_
                      refine tr_condp (fe_t rfl) (fun hq13 => ?_) (fun hq14 => ?_)
                      · try (exfalso; omega)
                        all_goals
                          have hkn : t.kids k = [] := by have e1 : t.kids k = t.kidsTo j k := (by show t.kidsTo t.n k = _; rw [show t.n = j by omega]); rw [e1]; exact List.eq_nil_of_length_eq_zero (by omega)
                          refine tr_region ?_
                          refine tl_step rfl (oj_val (y_move (fe_t rfl)) ?_)
                          refine tl_step rfl (oj_val (y_move (fe_t rfl)) ?_)
                          refine tl_step rfl (oj_slice1 Try.underlying79 Try.sizeOf3 Try.zeroValue3 (fe_t rfl) (by decide) rfl (fun b1 => ?_))
                          refine tl_step rfl (oj_append (i := 1) (s := 1) (z := (.int .i64 0)) (bytes := 8) Try.underlying79 (by kernel_rfl) (fe_t rfl) (fe_t rfl) rfl (rdl_blk 0 rfl) rfl (by decide) (by first | exact oneI | exact oneF (fun _ => rfl) | exact fun u hu => List.all_eq_true.1 (show List.all _ (fun x => x.oneCell') = true from rfl) u hu | (intro u hu; revert u hu; simp [Value.oneCell'])) (by decide) ⟨by omega, by decide⟩ (fun Aa1 ca1 hca1 => ?_))
                          refine tl_step rfl (oj_val (y_assign (fe_t rfl)) ?_)
                          refine tl_nil ?_
                          refine tx_in ?_
                          refine tx_then ?_
                          refine tr_region ?_
                          refine tl_step rfl (oj_val (y_inc (fe_t rfl) fe_c (by omega)) ?_)
                          refine tl_step rfl (oj_val (y_move (fe_t rfl)) ?_)
                          refine tl_nil ?_
                          apply tx_back2 (k + 1) ((⟨_, _, _, _⟩ : Vs))
                          · exact (cov_cons (by first | rfl | exact v_int (by omega) | exact v_bool (by simp [*])) (cov_cons (by first | rfl | exact v_int (by omega) | exact v_bool (by simp [*])) (cov_nil)))
                          · repeat (first | exact over_nil | refine over_put rfl ?_ | refine over_drop rfl ?_)
                          · exact fun w h => h.pick [1, 2, 3, 4] _ rfl (by decide)
                          · refine ⟨⟨by omega, ?_⟩, by omega⟩
                            rw [leaves_step, decide_eq_true hkn]
                            exact ⟨by dsimp only; simp; omega, by dsimp only; rw [hzx]; simp [kI, cI]; rfl⟩
                      · try (exfalso; omega)
                        all_goals
                          have hkn : ¬ t.kids k = [] := by have e1 : t.kids k = t.kidsTo j k := (by show t.kidsTo t.n k = _; rw [show t.n = j by omega]); rw [e1]; intro e2; rw [e2] at hq0; simp at hq0; omega
                          refine tr_skip ?_
                          refine tx_in ?_
                          refine tx_then ?_
                          refine tr_region ?_
                          refine tl_step rfl (oj_val (y_inc (fe_t rfl) fe_c (by omega)) ?_)
                          refine tl_step rfl (oj_val (y_move (fe_t rfl)) ?_)
                          refine tl_nil ?_
                          apply tx_back2 (k + 1) ((⟨_, _, _, _⟩ : Vs))
                          · exact (cov_cons (by first | rfl | exact v_int (by omega) | exact v_bool (by simp [*])) (cov_cons (by first | rfl | exact v_int (by omega) | exact v_bool (by simp [*])) (cov_nil)))
                          · repeat (first | exact over_nil | refine over_put rfl ?_ | refine over_drop rfl ?_)
                          · exact fun w h => h.pick [0, 1, 2, 3] _ rfl (by decide)
                          · refine ⟨⟨by omega, ?_⟩, by omega⟩
                            rw [leaves_step, decide_eq_false hkn]
                            exact ⟨by dsimp only; simp; omega, by dsimp only; rw [hzx]; simp⟩
              · try (exfalso; omega)
                all_goals
                  refine tr_exit ?_
                  refine tx_then_exit ?_
                  refine tx_then_exit ?_
                  refine tx_in_exit ?_
                  refine tx_then ?_
                  refine tr_seq ?_
                  refine tr_seq ?_
                  refine tr_region ?_
                  refine tl_step rfl (oj_val (y_move (fe_t rfl)) ?_)
                  refine tl_step rfl (oj_val (y_move (fe_t rfl)) ?_)
                  refine tl_step rfl (oj_callv Try.call73 fe_f (fel_cons (fe_t rfl) (fel_cons (fe_t rfl) fel_nil)) (fun w' hS => same_ints (a := kI (leavesTo t n)) (b := kI (leavesTo t n)) rfl ⟨by rw [kI_len, h0.1, ← ht], by rw [h0.2, ← ht]⟩ ⟨by rw [kI_len, hzn, show k = n by omega], by rw [hzx, show k = n by omega]⟩ w' (hS.holds 3 _ rfl) (hS.holds 0 _ rfl) (by rw [kI_len]; omega)) ?_)
                  refine tl_step rfl (oj_val (y_not (fe_t rfl)) ?_)
                  refine tl_nil ?_
                  refine tx_then ?_
                  refine tr_condf (fe_t rfl) ?_
                  refine tr_skip ?_
                  refine tx_then ?_
                  refine tr_seq ?_
                  refine tr_seq ?_
                  refine tr_region ?_
                  refine tl_step rfl (oj_val (y_move (fe_t rfl)) ?_)
                  refine tl_step rfl (oj_val (y_lss (fe_t rfl) fe_c) ?_)
                  refine tl_step rfl (oj_val (y_move (fe_t rfl)) ?_)
                  refine tl_splitp (d := 127) rfl (fun hq15 => ?_) (fun hq16 => ?_)
                  · try (exfalso; omega)
                    all_goals
                      refine tl_skip rfl rfl rfl rfl ?_
                      refine tl_skip rfl rfl rfl rfl ?_
                      refine tl_skip rfl rfl rfl rfl ?_
                      refine tl_skip rfl rfl rfl rfl ?_
                      refine tl_step rfl (oj_val (y_pickt (fe_t rfl) fe_c) ?_)
                      refine tl_nil ?_
                      refine tx_then ?_
                      exfalso; omega
                  · try (exfalso; omega)
                    all_goals
                      refine tl_want rfl rfl rfl (oj_val (y_move (fe_t rfl)) ?_)
                      refine tl_want rfl rfl rfl (oj_val (y_move (fe_t rfl)) ?_)
                      refine tl_want rfl rfl rfl (oj_val (y_len Try.underlying105 (fe_t rfl)) ?_)
                      refine tl_want rfl rfl rfl (oj_val (y_geq (fe_t rfl) (fe_t rfl)) ?_)
                      refine tl_step rfl (oj_val (y_pickf (fe_t rfl) (fe_t rfl)) ?_)
                      refine tl_nil ?_
                      refine tx_then ?_
                      refine tr_condp (fe_t rfl) (fun hq17 => ?_) (fun hq18 => ?_)
                      · exfalso; omega
                      · try (exfalso; omega)
                        all_goals
                          refine tr_skip ?_
                          refine tx_then ?_
                          refine tr_seq ?_
                          refine tr_region ?_
                          refine tl_step rfl (oj_val (y_move (fe_t rfl)) ?_)
                          refine tl_step rfl (oj_val (y_move (fe_t rfl)) ?_)
                          refine tl_step rfl (oj_call Try.call89 fe_f (fel_cons (fe_t rfl) (fel_cons (fe_t rfl) fel_nil)) (fun w' hS => qpathE hn hm ht g a ha w' (Rd.below hr hS.below)) (fun r2 h2 => ?_))
                          refine tl_step rfl (oj_val (y_assign (fe_t rfl)) ?_)
                          refine tl_nil ?_
                          refine tx_then ?_
                          refine tr_seq ?_
                          refine tr_region ?_
                          refine tl_step rfl (oj_alloc Try.zeroValue23 (fun shb => ?_))
                          refine tl_nil ?_
                          refine tx_then ?_
                          refine tr_seq ?_
                          refine tr_add (r := bag [] [] []) bag_nil rfl ?_
                          refine tr_region ?_
                          refine tl_step rfl (oj_val (y_move (fe_t rfl)) ?_)
                          refine tl_step rfl (oj_val (y_move (fe_t rfl)) ?_)
                          refine tl_step rfl (oj_call2 Try.call90 fe_f (fel_cons (fe_t rfl) (fel_cons (fe_t rfl) fel_nil)) (fun w' hS => qshareE hn hm ht g hr a ha (hS.pick [0, 1, 2, 3, 4, 5, 6] [_, _, _, _, _, _, _] rfl (by decide))) ?_)
                          rintro ⟨o0, H0, D0, es0⟩ hq0; dsimp only at hq0 ⊢
                          refine tl_step rfl (oj_val (y_move (fe_t rfl)) ?_)
                          refine tl_step rfl (oj_val (y_extract (fe_t rfl) rfl) ?_)
                          refine tl_step rfl (oj_val (y_extract (fe_t rfl) rfl) ?_)
                          refine tl_step rfl (oj_val (y_assign (fe_t rfl)) ?_)
                          refine tl_step rfl (oj_val (y_assign (fe_t rfl)) ?_)
                          refine tl_nil ?_
                          refine tx_then ?_
                          refine tr_seq ?_
                          refine tr_seq ?_
                          refine tr_region ?_
                          refine tl_step rfl (oj_val (y_move (fe_t rfl)) ?_)
                          refine tl_step rfl (oj_val (y_eq (fe_t rfl) fe_c) ?_)
                          refine tl_nil ?_
                          refine tx_then ?_
                          refine tr_condp (fe_t rfl) (fun hq19 => ?_) (fun hq20 => ?_)
                          · exfalso; omega
                          · try (exfalso; omega)
                            all_goals
                              refine tr_skip ?_
                              refine tx_then ?_
                              refine tr_seq ?_
                              refine tr_seq ?_
                              refine tr_region ?_
                              refine tl_step rfl (oj_val (y_move (fe_t rfl)) ?_)
                              refine tl_step rfl (oj_val (y_neq (fe_t rfl) fe_c) ?_)
                              refine tl_step rfl (oj_val (y_move (fe_t rfl)) ?_)
                              refine tl_splitp (d := 177) rfl (fun hq21 => ?_) (fun hq22 => ?_)
                              · try (exfalso; omega)
                                all_goals
                                  refine tl_skip rfl rfl rfl rfl ?_
                                  refine tl_skip rfl rfl rfl rfl ?_
                                  refine tl_skip rfl rfl rfl rfl ?_
                                  refine tl_step rfl (oj_val (y_pickt (fe_t rfl) fe_c) ?_)
                                  refine tl_step rfl (oj_val (y_move (fe_t rfl)) ?_)
                                  refine tl_skip rfl rfl rfl rfl ?_
                                  refine tl_skip rfl rfl rfl rfl ?_
                                  refine tl_skip rfl rfl rfl rfl ?_
                                  refine tl_skip rfl rfl rfl rfl ?_
                                  refine tl_step rfl (oj_val (y_pickt (fe_t rfl) fe_c) ?_)
                                  refine tl_step rfl (oj_val (y_move (fe_t rfl)) ?_)
                                  refine tl_skip rfl rfl rfl rfl ?_
                                  refine tl_skip rfl rfl rfl rfl ?_
                                  refine tl_skip rfl rfl rfl rfl ?_
                                  refine tl_step rfl (oj_val (y_pickt (fe_t rfl) fe_c) ?_)
                                  refine tl_nil ?_
                                  refine tx_then ?_
                                  refine tr_condt (fe_t rfl) ?_
                                  refine tr_seq ?_
                                  refine tr_region ?_
                                  refine tl_step rfl (oj_val (y_assign fe_c) ?_)
                                  refine tl_nil ?_
                                  refine tx_then ?_
                                  refine tr_ret ?_
                                  refine tx_then_ret ?_
                                  refine tx_ret (res1 Try.results12 (rok_t rfl)) (fun w' hS => ?_)
                                  exact ⟨ret_bool (by first | rfl | exact decide_eq_true hfin | (simp; done) | (simp [*]; done)), hS.pick [] _ rfl (by decide)⟩
                              · try (exfalso; omega)
                                all_goals
                                  refine tl_want rfl rfl rfl (oj_val (y_move (fe_t rfl)) ?_)
                                  refine tl_want rfl rfl rfl (oj_val (y_move (fe_t rfl)) ?_)
                                  refine tl_want rfl rfl rfl (oj_val (y_neq (fe_t rfl) (fe_t rfl)) ?_)
                                  refine tl_step rfl (oj_val (y_pickf (fe_t rfl) (fe_t rfl)) ?_)
                                  refine tl_step rfl (oj_val (y_move (fe_t rfl)) ?_)
                                  refine tl_splitp (d := 182) rfl (fun hq23 => ?_) (fun hq24 => ?_)
                                  · try (exfalso; omega)
                                    all_goals
                                      refine tl_skip rfl rfl rfl rfl ?_
                                      refine tl_skip rfl rfl rfl rfl ?_
                                      refine tl_skip rfl rfl rfl rfl ?_
                                      refine tl_skip rfl rfl rfl rfl ?_
                                      refine tl_step rfl (oj_val (y_pickt (fe_t rfl) fe_c) ?_)
                                      refine tl_step rfl (oj_val (y_move (fe_t rfl)) ?_)
                                      refine tl_skip rfl rfl rfl rfl ?_
                                      refine tl_skip rfl rfl rfl rfl ?_
                                      refine tl_skip rfl rfl rfl rfl ?_
                                      refine tl_step rfl (oj_val (y_pickt (fe_t rfl) fe_c) ?_)
                                      refine tl_nil ?_
                                      refine tx_then ?_
                                      refine tr_condt (fe_t rfl) ?_
                                      refine tr_seq ?_
                                      refine tr_region ?_
                                      refine tl_step rfl (oj_val (y_assign fe_c) ?_)
                                      refine tl_nil ?_
                                      refine tx_then ?_
                                      refine tr_ret ?_
                                      refine tx_then_ret ?_
                                      refine tx_ret (res1 Try.results12 (rok_t rfl)) (fun w' hS => ?_)
                                      exact ⟨ret_bool (by first | rfl | exact decide_eq_true hfin | (simp; done) | (simp [*]; done)), hS.pick [] _ rfl (by decide)⟩
                                  · try (exfalso; omega)
                                    all_goals
                                      refine tl_want rfl rfl rfl (oj_val (y_move (fe_t rfl)) ?_)
                                      refine tl_want rfl rfl rfl (oj_val (y_move (fe_t rfl)) ?_)
                                      refine tl_want rfl rfl rfl (oj_callv Try.call73 fe_f (fel_cons (fe_t rfl) (fel_cons (fe_t rfl) fel_nil)) (fun w' hS => same_ints (a := kI (path t a)) (b := kI (path t a)) rfl ⟨by rw [kI_len]; exact h1.1, h1.2⟩ ⟨by rw [kI_len]; exact h2.1, h2.2⟩ w' (hS.holds 5 _ rfl) (hS.holds 2 _ rfl) (by rw [kI_len]; omega)) ?_)
                                      refine tl_want rfl rfl rfl (oj_val (y_not (fe_t rfl)) ?_)
                                      refine tl_step rfl (oj_val (y_pickf (fe_t rfl) (fe_t rfl)) ?_)
                                      refine tl_step rfl (oj_val (y_move (fe_t rfl)) ?_)
                                      refine tl_want rfl rfl rfl (oj_val (y_ldbA 4 Try.isAgg23 Try.sizeOf23 (fe_t rfl) rfl rfl rfl) ?_)
                                      refine tl_want rfl rfl rfl (oj_val (y_ldbA 1 Try.isAgg23 Try.sizeOf23 (fe_t rfl) rfl rfl rfl) ?_)
                                      refine tl_want rfl rfl rfl (oj_val (y_binop (fe_t rfl) (fe_t rfl) (fun w => nefr _ _ w)) ?_)
                                      refine tl_step rfl (oj_val (y_pickf (fe_t rfl) (fe_t rfl)) ?_)
                                      refine tl_nil ?_
                                      refine tx_then ?_
                                      refine tr_condf (fe_t rfl) ?_
                                      refine tr_skip ?_
                                      refine tx_then ?_
                                      refine tr_seq ?_
                                      refine tr_seq ?_
                                      refine tr_region ?_
                                      refine tl_step rfl (oj_val (y_move (fe_t rfl)) ?_)
                                      refine tl_step rfl (oj_val (y_lss (fe_t rfl) fe_c) ?_)
                                      refine tl_step rfl (oj_val (y_move (fe_t rfl)) ?_)
                                      refine tl_splitp (d := 195) rfl (fun hq25 => ?_) (fun hq26 => ?_)
                                      · try (exfalso; omega)
                                        all_goals
                                          refine tl_skip rfl rfl rfl rfl ?_
                                          refine tl_skip rfl rfl rfl rfl ?_
                                          refine tl_skip rfl rfl rfl rfl ?_
                                          refine tl_skip rfl rfl rfl rfl ?_
                                          refine tl_step rfl (oj_val (y_pickt (fe_t rfl) fe_c) ?_)
                                          refine tl_nil ?_
                                          refine tx_then ?_
                                          exfalso; omega
                                      · try (exfalso; omega)
                                        all_goals
                                          refine tl_want rfl rfl rfl (oj_val (y_move (fe_t rfl)) ?_)
                                          refine tl_want rfl rfl rfl (oj_val (y_move (fe_t rfl)) ?_)
                                          refine tl_want rfl rfl rfl (oj_val (y_len Try.underlying105 (fe_t rfl)) ?_)
                                          refine tl_want rfl rfl rfl (oj_val (y_geq (fe_t rfl) (fe_t rfl)) ?_)
                                          refine tl_step rfl (oj_val (y_pickf (fe_t rfl) (fe_t rfl)) ?_)
                                          refine tl_nil ?_
                                          refine tx_then ?_
                                          refine tr_condp (fe_t rfl) (fun hq27 => ?_) (fun hq28 => ?_)
                                          · exfalso; omega
                                          · try (exfalso; omega)
                                            all_goals
                                              refine tr_skip ?_
                                              refine tx_then ?_
                                              refine tr_seq ?_
                                              refine tr_region ?_
                                              refine tl_step rfl (oj_val (y_move (fe_t rfl)) ?_)
                                              refine tl_step rfl (oj_val (y_move (fe_t rfl)) ?_)
                                              refine tl_step rfl (oj_call Try.call89 fe_f (fel_cons (fe_t rfl) (fel_cons (fe_t rfl) fel_nil)) (fun w' hS => qpathE hn hm ht g b hb w' (Rd.below hr hS.below)) (fun r4 h4 => ?_))
                                              refine tl_step rfl (oj_val (y_assign (fe_t rfl)) ?_)
                                              refine tl_nil ?_
                                              refine tx_then ?_
                                              refine tr_seq ?_
                                              refine tr_region ?_
                                              refine tl_step rfl (oj_val (y_assign fe_c) ?_)
                                              refine tl_nil ?_
                                              refine tx_then ?_
                                              refine tr_seq ?_
                                              refine tr_seq ?_
                                              refine tr_as (r' := vec 3 1 (.slice r2.A r2.n r2.c) r2.n (cI (kI (path t a)))) 3 rfl (congrArg (vec _ _ _ _) h2.2) ?_
                                              have h21 := h2.1
                                              have hmp := hME.pos
                                              have hml := hME.le
                                              refine tr_region ?_
                                              refine tl_step rfl (oj_val (y_move (fe_t rfl)) ?_)
                                              refine tl_step rfl (oj_val (y_len Try.underlying79 (fe_t rfl)) ?_)
                                              refine tl_step rfl (oj_val (y_move fe_c) ?_)
                                              refine tl_nil ?_
                                              refine tx_then ?_
                                              refine tr_block ?_
                                              refine tr_loop2 [26, 28, 212, 213, 214, 215, 216, 217, 218, 219, 220] (fun (i : Nat) (la : Int) => [(212, .int .i64 (i : Int)), (26, .int .i64 la)]) 0 (fun (i : Nat) (la : Int) => []) (fun (i : Nat) (la : Int) => i ≤ (path t a).length ∧ la = lastv (path t a) m0 i) (fun (i : Nat) (la : Int) => (path t a).length - i) (0) (0) (cov_cons (by first | rfl | exact v_int (by omega) | exact v_bool (by simp [*])) (cov_cons (by first | rfl | exact v_int (by omega) | exact v_bool (by simp [*])) (cov_nil))) (fun w h => h) ?_ ?_
                                              · try dsimp only
                                                exact ⟨by omega, rfl⟩
                                              intro i la hp
                                              obtain ⟨hi, hla⟩ := hp
                                              refine tr_seq ?_
                                              refine tr_region ?_
                                              refine tl_step rfl (oj_val (y_lss (fe_t rfl) (fe_t rfl)) ?_)
                                              refine tl_nil ?_
                                              refine tx_then ?_
                                              refine tr_seq ?_
                                              refine tr_condp (fe_t rfl) (fun hq29 => ?_) (fun hq30 => ?_)
                                              · try (exfalso; omega)
                                                all_goals
                                                  refine tr_skip ?_
                                                  refine tx_then ?_
                                                  refine tr_seq ?_
                                                  refine tr_block ?_
                                                  refine tr_seq ?_
                                                  refine tr_region ?_
                                                  refine tl_step rfl (oj_val (y_index Try.underlying79 Try.sizeOf3 (fe_t rfl) (fe_t rfl) (rdl_vec 3 rfl) (by simp [cI, kI_len]; omega) (by decide) (by omega) (Nat.mul_one _)) ?_)
                                                  refine tl_step rfl (oj_val (y_ld Try.isAgg3 (fe_t rfl) (rdl_vec 3 rfl) (getC (by rw [kI_len]; omega))) ?_)
                                                  refine tl_step rfl (oj_val (y_assign (fe_t rfl)) ?_)
                                                  refine tl_nil ?_
                                                  refine tx_then ?_
                                                  refine tr_seq ?_
                                                  obtain ⟨v, hv⟩ : ∃ v : Nat, v = (path t a).getD i 0 := ⟨_, rfl⟩
                                                  have hvi : (kI (path t a)).getD i 0 = (v : Int) := by rw [kI_at (by omega), hv]
                                                  rw [hvi]
                                                  refine tr_region ?_
                                                  refine tl_step rfl (oj_val (y_move (fe_t rfl)) ?_)
                                                  refine tl_step rfl (oj_val (y_move (fe_t rfl)) ?_)
                                                  refine tl_step rfl (oj_callv Try.call91 fe_f (fel_cons (fe_t rfl) (fel_cons (fe_t rfl) fel_nil)) (fun w' hS => contV (a := kI (path t b)) ⟨by rw [kI_len]; exact h4.1, h4.2⟩ w' (hS.holds 0 _ rfl) (by rw [kI_len]; omega)) ?_)
                                                  refine tl_nil ?_
                                                  refine tx_then ?_
                                                  refine tr_condp (fe_t rfl) (fun hq31 => ?_) (fun hq32 => ?_)
                                                  · try (exfalso; omega)
                                                    all_goals
                                                      have hmem : v ∈ path t b := mem_kI.1 hq31
                                                      have him : i < m0 := by
                                                        rcases Nat.lt_or_ge i m0 with h | h
                                                        · exact h
                                                        · exact absurd (hv ▸ hmem) (meet_not g ha hb hME h (by omega))
                                                      refine tr_region ?_
                                                      refine tl_step rfl (oj_val (y_move (fe_t rfl)) ?_)
                                                      refine tl_step rfl (oj_val (y_assign (fe_t rfl)) ?_)
                                                      refine tl_nil ?_
                                                      refine tx_in ?_
                                                      refine tx_then ?_
                                                      refine tr_region ?_
                                                      refine tl_step rfl (oj_val (y_inc (fe_t rfl) fe_c (by omega)) ?_)
                                                      refine tl_step rfl (oj_val (y_move (fe_t rfl)) ?_)
                                                      refine tl_nil ?_
                                                      apply tx_back2 (i + 1) (_)
                                                      · exact (cov_cons (by first | rfl | exact v_int (by omega) | exact v_bool (by simp [*])) (cov_cons (by first | rfl | exact v_int (by omega) | exact v_bool (by simp [*])) (cov_nil)))
                                                      · repeat (first | exact over_nil | refine over_put rfl ?_ | refine over_drop rfl ?_)
                                                      · exact fun w h => h.pick [0, 1, 2, 3, 4, 5, 6, 7] _ rfl (by decide)
                                                      · exact ⟨⟨by omega, by unfold lastv; rw [if_neg (by omega), show min (i + 1) m0 - 1 = i by omega, hv]⟩, by omega⟩
                                                  · try (exfalso; omega)
                                                    all_goals
                                                      have hmem : v ∉ path t b := fun h0 => absurd (mem_kI.2 h0) hq32
                                                      have him : m0 ≤ i := by
                                                        rcases Nat.lt_or_ge i m0 with h | h
                                                        · exact absurd (by rw [hv, hME.same i h]; exact mem_path (by omega)) hmem
                                                        · exact h
                                                      refine tr_skip ?_
                                                      refine tx_in ?_
                                                      refine tx_then ?_
                                                      refine tr_region ?_
                                                      refine tl_step rfl (oj_val (y_inc (fe_t rfl) fe_c (by omega)) ?_)
                                                      refine tl_step rfl (oj_val (y_move (fe_t rfl)) ?_)
                                                      refine tl_nil ?_
                                                      apply tx_back2 (i + 1) (_)
                                                      · exact (cov_cons (by first | rfl | exact v_int (by omega) | exact v_bool (by simp [*])) (cov_cons (by first | rfl | exact v_int (by omega) | exact v_bool (by simp [*])) (cov_nil)))
                                                      · repeat (first | exact over_nil | refine over_put rfl ?_ | refine over_drop rfl ?_)
                                                      · exact fun w h => h.pick [0, 1, 2, 3, 4, 5, 6, 7] _ rfl (by decide)
                                                      · exact ⟨⟨by omega, by rw [hla]; unfold lastv; rw [if_neg (by omega), if_neg (by omega), show min (i + 1) m0 = min i m0 by omega]⟩, by omega⟩
                                              · try (exfalso; omega)
                                                all_goals
                                                  refine tr_exit ?_
                                                  refine tx_then_exit ?_
                                                  refine tx_then_exit ?_
                                                  refine tx_in_exit ?_
                                                  refine tx_then ?_
                                                  refine tr_seq ?_
                                                  have hfin : (((path t a).getD (m0 - 1) 0 : Nat) : Int) = la := by rw [hla]; unfold lastv; rw [if_neg (by omega), show min i m0 - 1 = m0 - 1 by omega]
                                                  refine tr_region ?_
                                                  refine tl_step rfl (oj_val (y_move (fe_t rfl)) ?_)
                                                  refine tl_step rfl (oj_val (y_eq (fe_t rfl) fe_c) ?_)
                                                  refine tl_step rfl (oj_val (y_move (fe_t rfl)) ?_)
                                                  refine tl_splitp (d := 223) rfl (fun hq33 => ?_) (fun hq34 => ?_)
                                                  · try (exfalso; omega)
                                                    all_goals
                                                      refine tl_want rfl rfl rfl (oj_val (y_move (fe_t rfl)) ?_)
                                                      refine tl_want rfl rfl rfl (oj_val (y_move (fe_t rfl)) ?_)
                                                      refine tl_want rfl rfl rfl (oj_val (y_eq (fe_t rfl) (fe_t rfl)) ?_)
                                                      refine tl_step rfl (oj_val (y_pickt (fe_t rfl) (fe_t rfl)) ?_)
                                                      refine tl_step rfl (oj_val (y_assign (fe_t rfl)) ?_)
                                                      refine tl_nil ?_
                                                      refine tx_then ?_
                                                      refine tr_ret ?_
                                                      refine tx_ret (res1 Try.results12 (rok_t rfl)) (fun w' hS => ?_)
                                                      exact ⟨ret_bool (by first | rfl | exact decide_eq_true hfin | (simp; done) | (simp [*]; done)), hS.pick [] _ rfl (by decide)⟩
                                                  · try (exfalso; omega)
                                                    all_goals
                                                      refine tl_skip rfl rfl rfl rfl ?_
                                                      refine tl_skip rfl rfl rfl rfl ?_
                                                      refine tl_skip rfl rfl rfl rfl ?_
                                                      refine tl_step rfl (oj_val (y_pickf (fe_t rfl) fe_c) ?_)
                                                      refine tl_step rfl (oj_val (y_assign (fe_t rfl)) ?_)
                                                      refine tl_nil ?_
                                                      refine tx_then ?_
                                                      refine tr_ret ?_
                                                      refine tx_ret (res1 Try.results12 (rok_t rfl)) (fun w' hS => ?_)
                                                      exact ⟨ret_bool (by first | rfl | exact decide_eq_true hfin | (simp; done) | (simp [*]; done)), hS.pick [] _ rfl (by decide)⟩

end Go.Proofs.Ytcpdelkamckmfaa.Hier
