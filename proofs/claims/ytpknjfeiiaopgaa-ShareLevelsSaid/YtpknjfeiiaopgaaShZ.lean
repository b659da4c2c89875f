/- the law ShareLevels. -/
import Derived.Test.YtpknjfeiiaopgaaShG
import Derived.Test.YtpknjfeiiaopgaaShR
namespace Go.Proofs.Ytpknjfeiiaopgaa.Share
open Go.RowKit Go.Proofs.Ytpknjfeiiaopgaa.E

theorem eqfr {x y : Operand} (a b : Int) (w : World) : (do eqGuard .eql 76 x y (.agg #[(.int .i64 a), (.int .i64 b)]) (.agg #[(.int .i64 a), (.int .i64 b)]); binOp .eql 76 (.agg #[(.int .i64 a), (.int .i64 b)]) (.agg #[(.int .i64 a), (.int .i64 b)]) : Sem Value).run Try.prog w = .ok (.bool true) w := by
  have e1 : ∀ x y, Op.equal 76 x y = Op.equalIn (9998 + 1 + 1) 76 x y := fun _ _ => rfl
  simp [eqGuard, binOp, e1, go_sem]
theorem nefr {x y : Operand} (a b : Int) (w : World) : (do eqGuard .neq 76 x y (.agg #[(.int .i64 a), (.int .i64 b)]) (.agg #[(.int .i64 a), (.int .i64 b)]); binOp .neq 76 (.agg #[(.int .i64 a), (.int .i64 b)]) (.agg #[(.int .i64 a), (.int .i64 b)]) : Sem Value).run Try.prog w = .ok (.bool false) w := by
  have e1 : ∀ x y, Op.equal 76 x y = Op.equalIn (9998 + 1 + 1) 76 x y := fun _ _ => rfl
  simp [eqGuard, binOp, e1, go_sem]

set_option maxRecDepth 100000 in
set_option maxHeartbeats 1000000 in
theorem eq_fracs (A B : Option Addr) (n c d : Nat) (l : List (Int × Int)) (w : World) (h1 : Rd w A (l.flatMap c2)) (h2 : Rd w B (l.flatMap c2)) (hn : l.length = n) (hm : n ≤ 140737488355328) :
    Calls Try.prog 45 #[.slice A n c, .slice B n d] w fun e w' => e = .returned (.bool true) ∧ St w w' [] := by
  refine calls_tr Try.func45 Try.ntmps45 rfl rfl (St.refl _) ?_
  refine tr_seq ?_
  refine tr_region ?_
  refine tl_step rfl (oj_val (y_assign fe_c) ?_)
  refine tl_nil ?_
  refine tx_then ?_
  refine tr_seq ?_
  refine tr_seq ?_
  refine tr_region ?_
  refine tl_step rfl (oj_val (y_move (fe_t rfl)) ?_)
  refine tl_step rfl (oj_val (y_len Try.underlying79 (fe_t rfl)) ?_)
  refine tl_step rfl (oj_val (y_move (fe_t rfl)) ?_)
  refine tl_step rfl (oj_val (y_len Try.underlying79 (fe_t rfl)) ?_)
  refine tl_step rfl (oj_val (y_neq (fe_t rfl) (fe_t rfl)) ?_)
  refine tl_nil ?_
  refine tx_then ?_
  refine tr_condp (fe_t rfl) (fun hq1 => ?_) (fun hq2 => ?_)
  · exact absurd rfl hq1
  · refine tr_skip ?_
    refine tx_then ?_
    refine tr_seq ?_
    refine tr_seq ?_
    refine tr_region ?_
    refine tl_step rfl (oj_val (y_move (fe_t rfl)) ?_)
    refine tl_step rfl (oj_val (y_len Try.underlying79 (fe_t rfl)) ?_)
    refine tl_step rfl (oj_val (y_move fe_c) ?_)
    refine tl_nil ?_
    refine tx_then ?_
    refine tr_block ?_
    refine tr_loop1 [4, 5, 13, 14, 15, 16, 17, 18, 19, 20, 21, 22, 23, 24, 25] (fun (k : Nat) => [(13, .int .i64 (k : Int))]) 0 (fun (k : Nat) => []) (fun (k : Nat) => k ≤ n) (fun (k : Nat) => n - k) (0) (cov_cons (by first | rfl | exact v_int (by omega) | exact v_bool (by simp [*])) (cov_nil)) (fun w h => h) ?_ ?_
    · try dsimp only
      omega
    intro k hp
    refine tr_seq ?_
    refine tr_region ?_
    refine tl_step rfl (oj_val (y_lss (fe_t rfl) (fe_t rfl)) ?_)
    refine tl_nil ?_
    refine tx_then ?_
    refine tr_seq ?_
    refine tr_condp (fe_t rfl) (fun hq3 => ?_) (fun hq4 => ?_)
    · refine tr_skip ?_
      refine tx_then ?_
      refine tr_seq ?_
      refine tr_block ?_
      refine tr_seq ?_
      refine tr_region ?_
      refine tl_step rfl (oj_val (y_move (fe_t rfl)) ?_)
      refine tl_step rfl (oj_val (y_assign (fe_t rfl)) ?_)
      refine tl_nil ?_
      refine tx_then ?_
      refine tr_seq ?_
      refine tr_draw (sel _ []) (fun w h => h.sel _ rfl (by decide)) rfl ?_
      refine ta_float (i := 0) rfl (by kernel_rfl) (wants_none rfl) (yq_of (y_move (fe_t rfl))) ?_
      refine ta_float (i := 1) rfl (by kernel_rfl) (wants_none rfl) (yq_of (y_move (fe_t rfl))) ?_
      refine ta_float (i := 2) rfl (by kernel_rfl) (wants_none rfl) (yq_of (y_index Try.underlying79 Try.sizeOf76 (fe_t rfl) (fe_t rfl) (rdl_out h1) (Heavy.lenK hn) (by decide) (by omega) rfl)) ?_
      refine ta_float (i := 3) rfl (by kernel_rfl) (wants_none rfl) (yq_of (y_ldA (cs := [(.int .i64 (Heavy.k1 l k)), (.int .i64 (Heavy.k2 l k))]) Try.isAgg76 Try.sizeOf76 (fe_t rfl) (rdl_out h1) rfl (by decide) (Heavy.getK (by omega)))) ?_
      refine ta_float (i := 4) rfl (by kernel_rfl) (wants_none rfl) (yq_of (y_move (fe_t rfl))) ?_
      refine ta_float (i := 5) rfl (by kernel_rfl) (wants_none rfl) (yq_of (y_move (fe_t rfl))) ?_
      refine ta_float (i := 6) rfl (by kernel_rfl) (wants_none rfl) (yq_of (y_index Try.underlying79 Try.sizeOf76 (fe_t rfl) (fe_t rfl) (rdl_out h2) (Heavy.lenK hn) (by decide) (by omega) rfl)) ?_
      refine ta_float (i := 7) rfl (by kernel_rfl) (wants_none rfl) (yq_of (y_ldA (cs := [(.int .i64 (Heavy.k1 l k)), (.int .i64 (Heavy.k2 l k))]) Try.isAgg76 Try.sizeOf76 (fe_t rfl) (rdl_out h2) rfl (by decide) (Heavy.getK (by omega)))) ?_
      refine ta_float (i := 8) rfl (by kernel_rfl) (wants_none rfl) (yq_of (y_binop (fe_t rfl) (fe_t rfl) (fun w => nefr _ _ w))) ?_
      refine ta_done (by kernel_rfl) ?_
      refine tx_then ?_
      refine tr_condf (fe_t rfl) ?_
      refine tr_skip ?_
      refine tx_in ?_
      refine tx_then ?_
      refine tr_region ?_
      refine tl_step rfl (oj_val (y_inc (fe_t rfl) fe_c (by omega)) ?_)
      refine tl_step rfl (oj_val (y_move (fe_t rfl)) ?_)
      refine tl_nil ?_
      apply tx_back1 (k + 1)
      · exact (cov_cons (by first | rfl | exact v_int (by omega) | exact v_bool (by simp [*])) (cov_nil))
      · repeat (first | exact over_nil | refine over_put rfl ?_ | refine over_drop rfl ?_)
      · exact fun w h => h.pick [] _ rfl (by decide)
      · exact ⟨by omega, by omega⟩
    · refine tr_exit ?_
      refine tx_then_exit ?_
      refine tx_then_exit ?_
      refine tx_in_exit ?_
      refine tx_then ?_
      refine tr_seq ?_
      refine tr_region ?_
      refine tl_step rfl (oj_val (y_assign fe_c) ?_)
      refine tl_nil ?_
      refine tx_then ?_
      refine tr_ret ?_
      refine tx_ret (res1 Try.results45 (rok_t rfl)) (fun w' hS => ?_)
      exact ⟨rfl, hS.pick [] _ rfl (by decide)⟩
theorem same_fracs {a b : List (Int × Int)} {v u : Vs} (e : a = b) (h1 : v.n = a.length ∧ v.xs = a.flatMap c2) (h2 : u.n = b.length ∧ u.xs = b.flatMap c2) (w : World) (g1 : OwnV w 76 2 (.slice v.A v.n v.c) v.n v.xs) (g2 : OwnV w 76 2 (.slice u.A u.n u.c) u.n u.xs) (hl : a.length ≤ 1000000) :
    Calls Try.prog 45 #[.slice v.A v.n v.c, .slice u.A u.n u.c] w fun e w' => e = .returned (.bool true) ∧ St w w' [] := by
  subst e
  have r1 := (OwnV.rd g1).2.2
  have r2 := (OwnV.rd g2).2.2
  rw [h1.2] at r1
  rw [h2.2] at r2
  rw [show u.n = v.n by omega]
  exact eq_fracs _ _ v.n _ _ a w r1 r2 h1.1.symm (by omega)

set_option maxRecDepth 100000 in
set_option maxHeartbeats 4000000 in
theorem law_bad (A B : Option Addr) (n m c d : Nat) (ws ts : List Int) (w : World) (hw : Rd w A (ws.map (.int .i64))) (ht : Rd w B (ts.map (.int .i64))) (hwl : ws.length = n) (htl : ts.length = m) (hn : n ≤ 140737488355328) (hm : m ≤ 140737488355328) {all : Int} (hne : ¬ lw all ws ts = 0) :
    Calls Try.prog 8 #[(.int .i64 all), .slice A n c, .slice B m d] w fun e w' => e = .returned (.bool true) ∧ St w w' [] := by
  refine calls_tr Try.func8 Try.ntmps8 rfl rfl (St.refl _) ?_
  refine tr_seq ?_
  refine tr_region ?_
  refine tl_step rfl (oj_val (y_assign fe_c) ?_)
  refine tl_nil ?_
  refine tx_then ?_
  refine tr_seq ?_
  refine tr_region ?_
  refine tl_step rfl (oj_val (y_move (fe_t rfl)) ?_)
  refine tl_step rfl (oj_val (y_move (fe_t rfl)) ?_)
  refine tl_step rfl (oj_val (y_move (fe_t rfl)) ?_)
  refine tl_step rfl (oj_callv Try.call40 fe_f (fel_cons (fe_t rfl) (fel_cons (fe_t rfl) (fel_cons (fe_t rfl) fel_nil))) (fun w' hS => level_bad A B n m c d ws ts w' (Rd.below hw hS.below) (Rd.below ht hS.below) hwl htl hn hm hne) ?_)
  refine tl_step rfl (oj_val (y_move (fe_t rfl)) ?_)
  refine tl_step rfl (oj_val (y_extract (fe_t rfl) rfl) ?_)
  refine tl_step rfl (oj_val (y_extract (fe_t rfl) rfl) ?_)
  refine tl_step rfl (oj_alloc Try.zeroValue76 (fun fl => ?_))
  refine tl_step rfl (oj_storeW 0 Try.sizeOf76 (fe_t rfl) (fe_t rfl) rfl rfl rfl rfl rfl (?_))
  refine tl_step rfl (oj_val (y_assign (fe_t rfl)) ?_)
  refine tl_nil ?_
  refine tx_then ?_
  refine tr_seq ?_
  refine tr_region ?_
  refine tl_step rfl (oj_val (y_move (fe_t rfl)) ?_)
  refine tl_step rfl (oj_val (y_move (fe_t rfl)) ?_)
  refine tl_step rfl (oj_val (y_move (fe_t rfl)) ?_)
  refine tl_step rfl (oj_callv Try.call41 fe_f (fel_cons (fe_t rfl) (fel_cons (fe_t rfl) (fel_cons (fe_t rfl) fel_nil))) (fun w' hS => gets_bad A B n m c d ws ts w' (Rd.below hw hS.below) (Rd.below ht hS.below) hwl htl hn hm hne) ?_)
  refine tl_step rfl (oj_val (y_move (fe_t rfl)) ?_)
  refine tl_step rfl (oj_val (y_extract (fe_t rfl) rfl) ?_)
  refine tl_step rfl (oj_val (y_extract (fe_t rfl) rfl) ?_)
  refine tl_step rfl (oj_val (y_assign (fe_t rfl)) ?_)
  refine tl_step rfl (oj_val (y_assign (fe_t rfl)) ?_)
  refine tl_nil ?_
  refine tx_then ?_
  refine tr_seq ?_
  refine tr_region ?_
  refine tl_step rfl (oj_val (y_move (fe_t rfl)) ?_)
  refine tl_step rfl (oj_val (y_move (fe_t rfl)) ?_)
  refine tl_step rfl (oj_val (y_move (fe_t rfl)) ?_)
  refine tl_step rfl (oj_callv Try.call42 fe_f (fel_cons (fe_t rfl) (fel_cons (fe_t rfl) (fel_cons (fe_t rfl) fel_nil))) (fun w' hS => lwrongE A B n m c d ws ts w' (Rd.below hw hS.below) (Rd.below ht hS.below) hwl htl hn hm) ?_)
  refine tl_step rfl (oj_val (y_assign (fe_t rfl)) ?_)
  refine tl_nil ?_
  refine tx_then ?_
  refine tr_seq ?_
  refine tr_seq ?_
  refine tr_region ?_
  refine tl_step rfl (oj_val (y_move (fe_t rfl)) ?_)
  refine tl_step rfl (oj_val (y_move (fe_t rfl)) ?_)
  refine tl_step rfl (oj_val (y_move (fe_t rfl)) ?_)
  refine tl_step rfl (oj_callv Try.call43 fe_f (fel_cons (fe_t rfl) (fel_cons (fe_t rfl) (fel_cons (fe_t rfl) fel_nil))) (fun w' hS => wrongE A B n m c d ws ts w' (Rd.below hw hS.below) (Rd.below ht hS.below) hwl htl hn hm) ?_)
  refine tl_step rfl (oj_val (y_move (fe_t rfl)) ?_)
  refine tl_step rfl (oj_val (y_neq (fe_t rfl) (fe_t rfl)) ?_)
  refine tl_step rfl (oj_val (y_move (fe_t rfl)) ?_)
  refine tl_splitp (d := 40) rfl (fun hq1 => ?_) (fun hq2 => ?_)
  · try (exfalso; omega)
    all_goals
      refine tl_skip rfl rfl rfl rfl ?_
      refine tl_skip rfl rfl rfl rfl ?_
      refine tl_skip rfl rfl rfl rfl ?_
      refine tl_step rfl (oj_val (y_pickt (fe_t rfl) fe_c) ?_)
      refine tl_step rfl (oj_val (y_move (fe_t rfl)) ?_)
      refine tl_skip rfl rfl rfl rfl ?_
      refine tl_skip rfl rfl rfl rfl ?_
      refine tl_skip rfl rfl rfl rfl ?_
      refine tl_step rfl (oj_val (y_pickt (fe_t rfl) fe_c) ?_)
      refine tl_nil ?_
      refine tx_then ?_
      exfalso; omega
  · try (exfalso; omega)
    all_goals
      refine tl_want rfl rfl rfl (oj_val (y_move (fe_t rfl)) ?_)
      refine tl_want rfl rfl rfl (oj_val (y_move (fe_t rfl)) ?_)
      refine tl_want rfl rfl rfl (oj_val (y_neq (fe_t rfl) (fe_t rfl)) ?_)
      refine tl_step rfl (oj_val (y_pickf (fe_t rfl) (fe_t rfl)) ?_)
      refine tl_step rfl (oj_val (y_move (fe_t rfl)) ?_)
      refine tl_splitp (d := 45) rfl (fun hq3 => ?_) (fun hq4 => ?_)
      · try (exfalso; omega)
        all_goals
          refine tl_skip rfl rfl rfl rfl ?_
          refine tl_skip rfl rfl rfl rfl ?_
          refine tl_skip rfl rfl rfl rfl ?_
          refine tl_step rfl (oj_val (y_pickt (fe_t rfl) fe_c) ?_)
          refine tl_nil ?_
          refine tx_then ?_
          exfalso; omega
      · try (exfalso; omega)
        all_goals
          refine tl_want rfl rfl rfl (oj_val (y_move (fe_t rfl)) ?_)
          refine tl_want rfl rfl rfl (oj_val (y_move (fe_t rfl)) ?_)
          refine tl_want rfl rfl rfl (oj_val (y_neq (fe_t rfl) (fe_t rfl)) ?_)
          refine tl_step rfl (oj_val (y_pickf (fe_t rfl) (fe_t rfl)) ?_)
          refine tl_nil ?_
          refine tx_then ?_
          refine tr_condp (fe_t rfl) (fun hq5 => ?_) (fun hq6 => ?_)
          · exfalso; omega
          · try (exfalso; omega)
            all_goals
              refine tr_skip ?_
              refine tx_then ?_
              refine tr_seq ?_
              refine tr_seq ?_
              refine tr_region ?_
              refine tl_step rfl (oj_val (y_move (fe_t rfl)) ?_)
              refine tl_step rfl (oj_val (y_neq (fe_t rfl) fe_c) ?_)
              refine tl_nil ?_
              refine tx_then ?_
              refine tr_condp (fe_t rfl) (fun hq7 => ?_) (fun hq8 => ?_)
              · try (exfalso; omega)
                all_goals
                  refine tr_seq ?_
                  refine tr_region ?_
                  refine tl_step rfl (oj_val (y_ldbA 0 Try.isAgg76 Try.sizeOf76 (fe_t rfl) rfl rfl rfl) ?_)
                  refine tl_step rfl (oj_val (y_build (is := []) (vs := []) (cs := [.int .i64 0, .int .i64 0]) rfl fel_nil (by kernel_rfl)) ?_)
                  refine tl_step rfl (oj_val (y_binop (fe_t rfl) (fe_t rfl) (fun w => eqfr _ _ w)) ?_)
                  refine tl_step rfl (oj_val (y_move (fe_t rfl)) ?_)
                  refine tl_want rfl rfl rfl (oj_val (y_move (fe_t rfl)) ?_)
                  refine tl_want rfl rfl rfl (oj_val (y_len Try.underlying79 (fe_t rfl)) ?_)
                  refine tl_want rfl rfl rfl (oj_val (y_eq (fe_t rfl) fe_c) ?_)
                  refine tl_step rfl (oj_val (y_pickt (fe_t rfl) (fe_t rfl)) ?_)
                  refine tl_step rfl (oj_val (y_assign (fe_t rfl)) ?_)
                  refine tl_nil ?_
                  refine tx_then ?_
                  refine tr_ret ?_
                  refine tx_then_ret ?_
                  refine tx_ret (res1 Try.results8 (rok_t rfl)) (fun w' hS => ?_)
                  exact ⟨ret_bool (by first | rfl | (simp; done) | (simp [*]; done)), hS.pick [] _ rfl (by decide)⟩
              · exact absurd (by simpa using hq8) hne

set_option maxRecDepth 100000 in
set_option maxHeartbeats 4000000 in
theorem law_ok (A B : Option Addr) (n m c d : Nat) (ws ts : List Int) (w : World) (hw : Rd w A (ws.map (.int .i64))) (ht : Rd w B (ts.map (.int .i64))) (hwl : ws.length = n) (htl : ts.length = m) (hn : n ≤ 140737488355328) (hm : m ≤ 140737488355328) {all : Int} (hz : lw all ws ts = 0) :
    Calls Try.prog 8 #[(.int .i64 all), .slice A n c, .slice B m d] w fun e w' => e = .returned (.bool true) ∧ St w w' [] := by
  refine calls_tr Try.func8 Try.ntmps8 rfl rfl (St.refl _) ?_
  refine tr_seq ?_
  refine tr_region ?_
  refine tl_step rfl (oj_val (y_assign fe_c) ?_)
  refine tl_nil ?_
  refine tx_then ?_
  refine tr_seq ?_
  refine tr_region ?_
  refine tl_step rfl (oj_val (y_move (fe_t rfl)) ?_)
  refine tl_step rfl (oj_val (y_move (fe_t rfl)) ?_)
  refine tl_step rfl (oj_val (y_move (fe_t rfl)) ?_)
  refine tl_step rfl (oj_call Try.call40 fe_f (fel_cons (fe_t rfl) (fel_cons (fe_t rfl) (fel_cons (fe_t rfl) fel_nil))) (fun w' hS => level_ok A B n m c d ws ts w' (Rd.below hw hS.below) (Rd.below ht hS.below) hwl htl hn hm hz) (fun S hg => ?_))
  refine tl_step rfl (oj_val (y_move (fe_t rfl)) ?_)
  refine tl_step rfl (oj_val (y_extract (fe_t rfl) rfl) ?_)
  refine tl_step rfl (oj_val (y_extract (fe_t rfl) rfl) ?_)
  refine tl_step rfl (oj_alloc Try.zeroValue76 (fun fl => ?_))
  refine tl_step rfl (oj_storeW 0 Try.sizeOf76 (fe_t rfl) (fe_t rfl) rfl rfl rfl rfl rfl (?_))
  refine tl_step rfl (oj_val (y_assign (fe_t rfl)) ?_)
  refine tl_nil ?_
  refine tx_then ?_
  refine tr_seq ?_
  refine tr_region ?_
  refine tl_step rfl (oj_val (y_move (fe_t rfl)) ?_)
  refine tl_step rfl (oj_val (y_move (fe_t rfl)) ?_)
  refine tl_step rfl (oj_val (y_move (fe_t rfl)) ?_)
  refine tl_step rfl (oj_call Try.call41 fe_f (fel_cons (fe_t rfl) (fel_cons (fe_t rfl) (fel_cons (fe_t rfl) fel_nil))) (fun w' hS => gets_ok A B n m c d ws ts w' (Rd.below hw hS.below) (Rd.below ht hS.below) hwl htl hn hm hz) (fun r1 h1 => ?_))
  refine tl_step rfl (oj_val (y_move (fe_t rfl)) ?_)
  refine tl_step rfl (oj_val (y_extract (fe_t rfl) rfl) ?_)
  refine tl_step rfl (oj_val (y_extract (fe_t rfl) rfl) ?_)
  refine tl_step rfl (oj_val (y_assign (fe_t rfl)) ?_)
  refine tl_step rfl (oj_val (y_assign (fe_t rfl)) ?_)
  refine tl_nil ?_
  refine tx_then ?_
  refine tr_seq ?_
  refine tr_region ?_
  refine tl_step rfl (oj_val (y_move (fe_t rfl)) ?_)
  refine tl_step rfl (oj_val (y_move (fe_t rfl)) ?_)
  refine tl_step rfl (oj_val (y_move (fe_t rfl)) ?_)
  refine tl_step rfl (oj_callv Try.call42 fe_f (fel_cons (fe_t rfl) (fel_cons (fe_t rfl) (fel_cons (fe_t rfl) fel_nil))) (fun w' hS => lwrongE A B n m c d ws ts w' (Rd.below hw hS.below) (Rd.below ht hS.below) hwl htl hn hm) ?_)
  refine tl_step rfl (oj_val (y_assign (fe_t rfl)) ?_)
  refine tl_nil ?_
  refine tx_then ?_
  refine tr_seq ?_
  refine tr_seq ?_
  refine tr_region ?_
  refine tl_step rfl (oj_val (y_move (fe_t rfl)) ?_)
  refine tl_step rfl (oj_val (y_move (fe_t rfl)) ?_)
  refine tl_step rfl (oj_val (y_move (fe_t rfl)) ?_)
  refine tl_step rfl (oj_callv Try.call43 fe_f (fel_cons (fe_t rfl) (fel_cons (fe_t rfl) (fel_cons (fe_t rfl) fel_nil))) (fun w' hS => wrongE A B n m c d ws ts w' (Rd.below hw hS.below) (Rd.below ht hS.below) hwl htl hn hm) ?_)
  refine tl_step rfl (oj_val (y_move (fe_t rfl)) ?_)
  refine tl_step rfl (oj_val (y_neq (fe_t rfl) (fe_t rfl)) ?_)
  refine tl_step rfl (oj_val (y_move (fe_t rfl)) ?_)
  refine tl_splitp (d := 40) rfl (fun hq1 => ?_) (fun hq2 => ?_)
  · try (exfalso; omega)
    all_goals
      refine tl_skip rfl rfl rfl rfl ?_
      refine tl_skip rfl rfl rfl rfl ?_
      refine tl_skip rfl rfl rfl rfl ?_
      refine tl_step rfl (oj_val (y_pickt (fe_t rfl) fe_c) ?_)
      refine tl_step rfl (oj_val (y_move (fe_t rfl)) ?_)
      refine tl_skip rfl rfl rfl rfl ?_
      refine tl_skip rfl rfl rfl rfl ?_
      refine tl_skip rfl rfl rfl rfl ?_
      refine tl_step rfl (oj_val (y_pickt (fe_t rfl) fe_c) ?_)
      refine tl_nil ?_
      refine tx_then ?_
      exfalso; omega
  · try (exfalso; omega)
    all_goals
      refine tl_want rfl rfl rfl (oj_val (y_move (fe_t rfl)) ?_)
      refine tl_want rfl rfl rfl (oj_val (y_move (fe_t rfl)) ?_)
      refine tl_want rfl rfl rfl (oj_val (y_neq (fe_t rfl) (fe_t rfl)) ?_)
      refine tl_step rfl (oj_val (y_pickf (fe_t rfl) (fe_t rfl)) ?_)
      refine tl_step rfl (oj_val (y_move (fe_t rfl)) ?_)
      refine tl_splitp (d := 45) rfl (fun hq3 => ?_) (fun hq4 => ?_)
      · try (exfalso; omega)
        all_goals
          refine tl_skip rfl rfl rfl rfl ?_
          refine tl_skip rfl rfl rfl rfl ?_
          refine tl_skip rfl rfl rfl rfl ?_
          refine tl_step rfl (oj_val (y_pickt (fe_t rfl) fe_c) ?_)
          refine tl_nil ?_
          refine tx_then ?_
          exfalso; omega
      · try (exfalso; omega)
        all_goals
          refine tl_want rfl rfl rfl (oj_val (y_move (fe_t rfl)) ?_)
          refine tl_want rfl rfl rfl (oj_val (y_move (fe_t rfl)) ?_)
          refine tl_want rfl rfl rfl (oj_val (y_neq (fe_t rfl) (fe_t rfl)) ?_)
          refine tl_step rfl (oj_val (y_pickf (fe_t rfl) (fe_t rfl)) ?_)
          refine tl_nil ?_
          refine tx_then ?_
          refine tr_condp (fe_t rfl) (fun hq5 => ?_) (fun hq6 => ?_)
          · exfalso; omega
          · try (exfalso; omega)
            all_goals
              refine tr_skip ?_
              refine tx_then ?_
              refine tr_seq ?_
              refine tr_seq ?_
              refine tr_region ?_
              refine tl_step rfl (oj_val (y_move (fe_t rfl)) ?_)
              refine tl_step rfl (oj_val (y_neq (fe_t rfl) fe_c) ?_)
              refine tl_nil ?_
              refine tx_then ?_
              refine tr_condp (fe_t rfl) (fun hq7 => ?_) (fun hq8 => ?_)
              · exfalso; omega
              · try (exfalso; omega)
                all_goals
                  refine tr_skip ?_
                  refine tx_then ?_
                  refine tr_seq ?_
                  have hlen := lw_len hz
                  have hr := lw_rg hz (n := n) (by omega)
                  have hn16 := hr.n16
                  have hall := (lw_zero hz).1
                  refine tr_region ?_
                  refine tl_step rfl (oj_val (y_move (fe_t rfl)) ?_)
                  refine tl_step rfl (oj_val (y_move (fe_t rfl)) ?_)
                  refine tl_step rfl (oj_val (y_move (fe_t rfl)) ?_)
                  refine tl_step rfl (oj_call Try.call44 fe_f (fel_cons (fe_t rfl) (fel_cons (fe_t rfl) (fel_cons (fe_t rfl) fel_nil))) (fun w' hS => llevelE A B n m c d ws ts w' (Rd.below hw hS.below) (Rd.below ht hS.below) hwl htl hn hm hz hg) (fun r2 _ => ?_))
                  refine tl_step rfl (oj_val (y_move (fe_t rfl)) ?_)
                  refine tl_step rfl (oj_val (y_extract (fe_t rfl) rfl) ?_)
                  refine tl_step rfl (oj_val (y_extract (fe_t rfl) rfl) ?_)
                  refine tl_step rfl (oj_alloc Try.zeroValue76 (fun fm => ?_))
                  refine tl_step rfl (oj_storeW 0 Try.sizeOf76 (fe_t rfl) (fe_t rfl) rfl rfl rfl rfl rfl (?_))
                  refine tl_step rfl (oj_val (y_assign (fe_t rfl)) ?_)
                  refine tl_nil ?_
                  refine tx_then ?_
                  refine tr_seq ?_
                  refine tr_region ?_
                  refine tl_step rfl (oj_val (y_assign fe_c) ?_)
                  refine tl_nil ?_
                  refine tx_then ?_
                  refine tr_seq ?_
                  refine tr_seq ?_
                  refine tr_region ?_
                  refine tl_step rfl (oj_val (y_move (fe_t rfl)) ?_)
                  refine tl_step rfl (oj_val (y_len Try.underlying27 (fe_t rfl)) ?_)
                  refine tl_step rfl (oj_val (y_move fe_c) ?_)
                  refine tl_nil ?_
                  refine tx_then ?_
                  refine tr_block ?_
                  refine tr_add (r := vec 76 2 (.slice none 0 0) 0 []) vec_nil rfl ?_
                  refine tr_loop2 [14, 15, 69, 70, 71, 72, 73, 74, 75, 76, 77, 78, 79, 80, 81, 82, 83, 84, 85, 86, 87, 88, 89, 90, 91, 92, 93, 94, 95, 96, 97] (fun (i : Nat) (z1 : Vs) => [(69, .int .i64 (i : Int)), (14, .slice z1.A z1.n z1.c)]) 0 (fun (i : Nat) (z1 : Vs) => [(0, vec 76 2 (.slice z1.A z1.n z1.c) z1.n z1.xs)]) (fun (i : Nat) (z1 : Vs) => i ≤ n ∧ z1.n = i ∧ z1.xs = (gL all (gI ws) (gI ts) n S i).flatMap c2) (fun (i : Nat) (z1 : Vs) => n - i) (0) (⟨none, 0, 0, []⟩ : Vs) (cov_cons (by first | rfl | exact v_int (by omega) | exact v_bool (by simp [*])) (cov_cons (by first | rfl | exact v_int (by omega) | exact v_bool (by simp [*])) (cov_nil))) (fun w h => h) ?_ ?_
                  · try dsimp only
                    exact ⟨by omega, rfl, rfl⟩
                  intro i z1 hp
                  obtain ⟨hi, hzn, hzx⟩ := hp
                  refine tr_seq ?_
                  refine tr_region ?_
                  refine tl_step rfl (oj_val (y_lss (fe_t rfl) (fe_t rfl)) ?_)
                  refine tl_nil ?_
                  refine tx_then ?_
                  refine tr_seq ?_
                  refine tr_condp (fe_t rfl) (fun hq9 => ?_) (fun hq10 => ?_)
                  · try (exfalso; omega)
                    all_goals
                      refine tr_skip ?_
                      refine tx_then ?_
                      refine tr_seq ?_
                      refine tr_block ?_
                      refine tr_seq ?_
                      refine tr_region ?_
                      refine tl_step rfl (oj_val (y_move (fe_t rfl)) ?_)
                      refine tl_step rfl (oj_val (y_assign (fe_t rfl)) ?_)
                      refine tl_nil ?_
                      refine tx_then ?_
                      refine tr_seq ?_
                      have hwi := hr.w i (by omega)
                      have hti := hr.t i (by omega)
                      have hlb := lev_bd hr hg hall.2
                      have hp2 := mul_bd (a := gI ts i) (b := (lev all (gI ws) (gI ts) n S).1) (show 0 ≤ gI ts i ∧ gI ts i ≤ 1000 by omega) hlb.1
                      refine tr_region ?_
                      refine tl_step rfl (oj_val (y_move (fe_t rfl)) ?_)
                      refine tl_step rfl (oj_val (y_move (fe_t rfl)) ?_)
                      refine tl_step rfl (oj_val (y_index Try.underlying28 Try.sizeOf4 (fe_t rfl) (fe_t rfl) (rdl_vec 2 rfl) (shV_len.trans (Nat.mul_one _).symm) (by decide) (by omega) (Nat.mul_one _)) ?_)
                      refine tl_step rfl (oj_val (y_ld (v := .bool (!S i)) Try.isAgg4 (fe_t rfl) (rdl_vec 2 rfl) (getSh (by omega))) ?_)
                      refine tl_nil ?_
                      refine tx_then ?_
                      refine tr_cond (fe_t rfl) (fun hq11 => ?_) (fun hq12 => ?_)
                      · try (exfalso; omega)
                        all_goals
                          have hSb := hq11
                          refine tb_draw 12 (sel _ [1, 2, 3, 4]) (fun w h => h.sel _ rfl (by decide)) rfl ?_
                          refine tb_float (i := 0) rfl (by kernel_rfl) rfl (wants_none rfl) (yq_of (y_move (fe_t rfl))) ?_
                          refine tb_float (i := 1) rfl (by kernel_rfl) rfl (wants_none rfl) (yq_of (y_move (fe_t rfl))) ?_
                          refine tb_float (i := 2) rfl (by kernel_rfl) rfl (wants_none rfl) (yq_of (y_move (fe_t rfl))) ?_
                          refine tb_float (i := 3) rfl (by kernel_rfl) rfl (wants_none rfl) (yq_of (y_index Try.underlying27 Try.sizeOf3 (fe_t rfl) (fe_t rfl) (rdl_out ht) (by simp; omega) (by decide) (by omega) (Nat.mul_one _))) ?_
                          refine tb_float (i := 4) rfl (by kernel_rfl) rfl (wants_none rfl) (yq_of (y_ld Try.isAgg3 (fe_t rfl) (rdl_out ht) (getg (zs := ts) (by omega)))) ?_
                          refine tb_float (i := 5) rfl (by kernel_rfl) rfl (wants_none rfl) (yq_of (y_fieldAddr (td := 3) Try.underlying76 rfl rfl Try.sizeOf3 (o' := 0) rfl (fe_t rfl))) ?_
                          refine tb_float (i := 6) rfl (by kernel_rfl) rfl (wants_none rfl) (yq_of (y_ldb 0 Try.isAgg3 (fe_t rfl) rfl rfl)) ?_
                          refine tb_float (i := 7) rfl (by kernel_rfl) rfl (wants_none rfl) (yq_of (y_mul (fe_t rfl) (fe_t rfl) (by omega))) ?_
                          refine tb_float (i := 8) rfl (by kernel_rfl) rfl (wants_none rfl) (yq_of (y_fieldAddr (td := 3) Try.underlying76 rfl rfl Try.sizeOf3 (o' := 1) rfl (fe_t rfl))) ?_
                          refine tb_float (i := 9) rfl (by kernel_rfl) rfl (wants_none rfl) (yq_of (y_ldb 0 Try.isAgg3 (fe_t rfl) rfl rfl)) ?_
                          refine tb_float (i := 10) rfl (by kernel_rfl) rfl (wants_none rfl) (yq_of ((fun {u0 u1} hx hb => y_build (is := [0, 1]) (vs := [u0, u1]) (cs := [u0, u1]) rfl hx hb) (fel_cons (fe_t rfl) (fel_cons (fe_t rfl) fel_nil)) (by kernel_rfl))) ?_
                          refine tb_one1 (i := 11) rfl (by kernel_rfl) (by kernel_rfl) (wants_none rfl) (oj_slice1 Try.underlying79 Try.sizeOf76 Try.zeroValue76 (fe_t rfl) (by decide) rfl (fun b1 => ⟨fun w h => h.pick [1, 2, 3, 4, 5] _ rfl (by decide), ?_⟩))
                          refine tb_one2 (i := 12) rfl (by kernel_rfl) (by kernel_rfl) (wants_none rfl) (oj_append (i := 1) (s := 2) (z := (.agg #[.int .i64 0, .int .i64 0])) (bytes := 16) Try.underlying79 (by kernel_rfl) (fe_t rfl) (fe_t rfl) rfl (rdl_blk 0 rfl) rfl (by decide) (by first | exact oneI | exact oneF (fun _ => rfl) | exact fun u hu => List.all_eq_true.1 (show List.all _ (fun x => x.oneCell') = true from rfl) u hu | (intro u hu; revert u hu; simp [Value.oneCell'])) (by decide) ⟨by omega, by decide⟩ (fun Aa1 ca1 hca1 => ⟨fun w h => h.pick [2, 3, 4, 5] _ rfl (by decide), ?_⟩))
                          refine tb_float (i := 13) rfl (by kernel_rfl) rfl (wants_none rfl) (yq_of (y_assign (fe_t rfl))) ?_
                          refine tb_done (by kernel_rfl) ?_
                          refine tx_in ?_
                          refine tx_then ?_
                          refine tr_region ?_
                          refine tl_step rfl (oj_val (y_inc (fe_t rfl) fe_c (by omega)) ?_)
                          refine tl_step rfl (oj_val (y_move (fe_t rfl)) ?_)
                          refine tl_nil ?_
                          apply tx_back2 (i + 1) ((⟨_, _, _, _⟩ : Vs))
                          · exact (cov_cons (by first | rfl | exact v_int (by omega) | exact v_bool (by simp [*])) (cov_cons (by first | rfl | exact v_int (by omega) | exact v_bool (by simp [*])) (cov_nil)))
                          · repeat (first | exact over_nil | refine over_put rfl ?_ | refine over_drop rfl ?_)
                          · exact fun w h => h.pick [1, 2, 3, 4, 5] _ rfl (by decide)
                          · have hSi : S i = false := by simpa using hSb
                            exact ⟨⟨by omega, by dsimp only; omega, by rw [gL_succ (get1_f hSi), List.flatMap_append]; dsimp only; rw [hzx]; rfl⟩, by omega⟩
                      · try (exfalso; omega)
                        all_goals
                          have hSb := hq12
                          refine tr_region ?_
                          refine tl_step rfl (oj_val (y_move (fe_t rfl)) ?_)
                          refine tl_step rfl (oj_val (y_move (fe_t rfl)) ?_)
                          refine tl_step rfl (oj_val (y_move (fe_t rfl)) ?_)
                          refine tl_step rfl (oj_val (y_index Try.underlying27 Try.sizeOf3 (fe_t rfl) (fe_t rfl) (rdl_out hw) (by simp; omega) (by decide) (by omega) (Nat.mul_one _)) ?_)
                          refine tl_step rfl (oj_val (y_ld Try.isAgg3 (fe_t rfl) (rdl_out hw) (getg (zs := ws) (by omega))) ?_)
                          refine tl_step rfl (oj_val ((fun {u0 u1} hx hb => y_build (is := [0, 1]) (vs := [u0, u1]) (cs := [u0, u1]) rfl hx hb) (fel_cons (fe_t rfl) (fel_cons (fe_c (v := .int .i64 1)) fel_nil)) (by kernel_rfl)) ?_)
                          refine tl_step rfl (oj_slice1 Try.underlying79 Try.sizeOf76 Try.zeroValue76 (fe_t rfl) (by decide) rfl (fun b2 => ?_))
                          refine tl_step rfl (oj_append (i := 1) (s := 2) (z := (.agg #[.int .i64 0, .int .i64 0])) (bytes := 16) Try.underlying79 (by kernel_rfl) (fe_t rfl) (fe_t rfl) rfl (rdl_blk 0 rfl) rfl (by decide) (by first | exact oneI | exact oneF (fun _ => rfl) | exact fun u hu => List.all_eq_true.1 (show List.all _ (fun x => x.oneCell') = true from rfl) u hu | (intro u hu; revert u hu; simp [Value.oneCell'])) (by decide) ⟨by omega, by decide⟩ (fun Aa2 ca2 hca2 => ?_))
                          refine tl_step rfl (oj_val (y_assign (fe_t rfl)) ?_)
                          refine tl_nil ?_
                          refine tx_in ?_
                          refine tx_then ?_
                          refine tr_region ?_
                          refine tl_step rfl (oj_val (y_inc (fe_t rfl) fe_c (by omega)) ?_)
                          refine tl_step rfl (oj_val (y_move (fe_t rfl)) ?_)
                          refine tl_nil ?_
                          apply tx_back2 (i + 1) ((⟨_, _, _, _⟩ : Vs))
                          · exact (cov_cons (by first | rfl | exact v_int (by omega) | exact v_bool (by simp [*])) (cov_cons (by first | rfl | exact v_int (by omega) | exact v_bool (by simp [*])) (cov_nil)))
                          · repeat (first | exact over_nil | refine over_put rfl ?_ | refine over_drop rfl ?_)
                          · exact fun w h => h.pick [1, 2, 3, 4, 5] _ rfl (by decide)
                          · have hSi : S i = true := by simpa using hSb
                            exact ⟨⟨by omega, by dsimp only; omega, by rw [gL_succ (get1_t hSi), List.flatMap_append]; dsimp only; rw [hzx]; rfl⟩, by omega⟩
                  · try (exfalso; omega)
                    all_goals
                      refine tr_exit ?_
                      refine tx_then_exit ?_
                      refine tx_then_exit ?_
                      refine tx_in_exit ?_
                      refine tx_then ?_
                      refine tr_seq ?_
                      obtain rfl : n = i := by omega
                      have heq : gL all (gI ws) (gI ts) n r1.2 n = gL all (gI ws) (gI ts) n S n := gL_congr (h1.1.uniq hr hg) (Nat.le_refl _)
                      refine tr_region ?_
                      refine tl_step rfl (oj_val (y_ldbA 4 Try.isAgg76 Try.sizeOf76 (fe_t rfl) rfl rfl rfl) ?_)
                      refine tl_step rfl (oj_val (y_ldbA 1 Try.isAgg76 Try.sizeOf76 (fe_t rfl) rfl rfl rfl) ?_)
                      refine tl_step rfl (oj_val (y_binop (fe_t rfl) (fe_t rfl) (fun w => eqfr _ _ w)) ?_)
                      refine tl_step rfl (oj_val (y_move (fe_t rfl)) ?_)
                      refine tl_want rfl rfl rfl (oj_val (y_move (fe_t rfl)) ?_)
                      refine tl_want rfl rfl rfl (oj_val (y_move (fe_t rfl)) ?_)
                      refine tl_want rfl rfl rfl (oj_callv Try.call45 fe_f (fel_cons (fe_t rfl) (fel_cons (fe_t rfl) fel_nil)) (fun w' hS => same_fracs (a := gL all (gI ws) (gI ts) n r1.2 n) (b := gL all (gI ws) (gI ts) n S n) heq ⟨h1.2.1.trans gL_len.symm, h1.2.2⟩ ⟨hzn.trans gL_len.symm, hzx⟩ w' (hS.holds 3 _ rfl) (hS.holds 0 _ rfl) (by rw [gL_len]; omega)) ?_)
                      refine tl_step rfl (oj_val (y_pickt (fe_t rfl) (fe_t rfl)) ?_)
                      refine tl_step rfl (oj_val (y_assign (fe_t rfl)) ?_)
                      refine tl_nil ?_
                      refine tx_then ?_
                      refine tr_ret ?_
                      refine tx_ret (res1 Try.results8 (rok_t rfl)) (fun w' hS => ?_)
                      exact ⟨ret_bool (by first | rfl | (simp; done) | (simp [*]; done)), hS.pick [] _ rfl (by decide)⟩

end Go.Proofs.Ytpknjfeiiaopgaa.Share
