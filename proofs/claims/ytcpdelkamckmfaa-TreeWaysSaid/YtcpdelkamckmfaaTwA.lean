/- tree.part, Path, Share, Meet. -/
import Derived.Test.YtcpdelkamckmfaaTwM
import Derived.Test.YtcpdelkamckmfaaInI
namespace Go.Proofs.Ytcpdelkamckmfaa.Hier
open Go.RowKit Go.Proofs.Ytcpdelkamckmfaa.E Go.Proofs.Ytcpdelkamckmfaa.Frac

theorem kI_len {ks : List Nat} : (kI ks).length = ks.length := by simp [kI]
theorem kI_at {ks : List Nat} {j : Nat} (h : j < ks.length) : (kI ks).getD j 0 = ((ks.getD j 0 : Nat) : Int) := getD_map (fun c : Nat => (c : Int)) rfl
theorem getC {l : List Int} {j : Nat} (h : j < l.length) : (cI l)[j]? = some (.int .i64 (l.getD j 0)) := by simp [cI, h]

set_option maxRecDepth 100000 in
set_option maxHeartbeats 1000000 in
theorem partE (A : Option Addr) (n c : Nat) (ns : List (Int × Int)) (w : World) (hr : Rd w A (ns.flatMap c2)) (hn : ns.length = n) (hm : n ≤ 140737488355328) {t : Tr} (ht : t = trOf ns) (g : t.Good) {k : Nat} (hk : k < t.n) :
    Calls Try.prog 153 #[.slice A n c, (.int .i64 ((k : Int)))] w fun e w' => e = .returned (.agg #[(.int .i64 ((prt t k).1)), (.int .i64 ((prt t k).2))]) ∧ St w w' [] := by
  have htn : t.n = n := by rw [ht, trOf_n, hn]
  have hn16 := g.n16
  have hn1 := g.n1
  have hnu : t.u k = n1 ns k := by rw [ht, trOf_u]
  refine calls_tr Try.func153 Try.ntmps153 rfl rfl (St.refl _) ?_
  refine tr_seq ?_
  refine tr_region ?_
  refine tl_step rfl (oj_alloc Try.zeroValue23 (fun rb => ?_))
  refine tl_nil ?_
  refine tx_then ?_
  refine tr_seq ?_
  refine tr_seq ?_
  refine tr_region ?_
  refine tl_step rfl (oj_val (y_move (fe_t rfl)) ?_)
  refine tl_step rfl (oj_val (y_move (fe_t rfl)) ?_)
  refine tl_step rfl (oj_val (y_index Try.underlying105 Try.sizeOf121 (fe_t rfl) (fe_t rfl) (rdl_out hr) (lenN hn) (by decide) (by omega) rfl) ?_)
  refine tl_step rfl (oj_val (y_fieldAddrE (td := 3) Try.underlying121 rfl rfl Try.sizeOf3 rfl (fe_t rfl) (rdl_out hr) (by rw [lenN hn]; omega)) ?_)
  refine tl_step rfl (oj_val (y_ld Try.isAgg3 (fe_t rfl) (rdl_out hr) (getN1 (by omega))) ?_)
  refine tl_step rfl (oj_val (y_lss (fe_t rfl) fe_c) ?_)
  refine tl_nil ?_
  refine tx_then ?_
  refine tr_condp (fe_t rfl) (fun hq1 => ?_) (fun hq2 => ?_)
  · try (exfalso; omega)
    all_goals
      refine tr_seq ?_
      refine tr_region ?_
      refine tl_step rfl (oj_val ((fun {u0 u1} hx hb => y_build (is := [0, 1]) (vs := [u0, u1]) (cs := [u0, u1]) rfl hx hb) (fel_cons (fe_c (v := .int .i64 1)) (fel_cons (fe_c (v := .int .i64 1)) fel_nil)) (by kernel_rfl)) ?_)
      refine tl_step rfl (oj_storeW 0 Try.sizeOf23 (fe_t rfl) (fe_t rfl) rfl rfl rfl rfl rfl (?_))
      refine tl_nil ?_
      refine tx_then ?_
      refine tr_ret ?_
      refine tx_then_ret ?_
      refine tx_ret (res1 Try.results153 (rok_b 0 Try.isAgg23 Try.sizeOf23 rfl rfl rfl)) (fun w' hS => ?_)
      exact ⟨by rw [show prt t k = (1, 1) by unfold prt; rw [if_pos (by omega)]], hS.pick [] _ rfl (by decide)⟩
  · try (exfalso; omega)
    all_goals
      obtain ⟨p, hp⟩ : ∃ p : Nat, t.u k = p := ⟨(t.u k).toNat, by omega⟩
      refine tr_skip ?_
      refine tx_then ?_
      refine tr_seq ?_
      refine tr_region ?_
      refine tl_step rfl (oj_val (y_assign fe_c) ?_)
      refine tl_nil ?_
      refine tx_then ?_
      refine tr_seq ?_
      refine tr_seq ?_
      refine tr_region ?_
      refine tl_step rfl (oj_val (y_move (fe_t rfl)) ?_)
      refine tl_step rfl (oj_val (y_len Try.underlying105 (fe_t rfl)) ?_)
      refine tl_step rfl (oj_val (y_move fe_c) ?_)
      refine tl_nil ?_
      refine tx_then ?_
      refine tr_block ?_
      refine tr_loop2 [5, 7, 17, 18, 19, 20, 21, 22, 23, 24, 25, 26, 27, 28, 29, 30, 31, 32, 33] (fun (i : Nat) (z : Int) => [(17, .int .i64 (i : Int)), (5, .int .i64 z)]) 0 (fun (i : Nat) (z : Int) => []) (fun (i : Nat) (z : Int) => i ≤ n ∧ z = t.sumTo i p) (fun (i : Nat) (z : Int) => n - i) (0) (0) (cov_cons (by first | rfl | exact v_int (by omega) | exact v_bool (by simp [*])) (cov_cons (by first | rfl | exact v_int (by omega) | exact v_bool (by simp [*])) (cov_nil))) (fun w h => h) ?_ ?_
      · try dsimp only
        exact ⟨by omega, rfl⟩
      intro i z hp
      obtain ⟨hi, hz⟩ := hp
      have hzb := sumTo_bd g (k := p) (n := i) (by omega)
      refine tr_seq ?_
      refine tr_region ?_
      refine tl_step rfl (oj_val (y_lss (fe_t rfl) (fe_t rfl)) ?_)
      refine tl_nil ?_
      refine tx_then ?_
      refine tr_seq ?_
      refine tr_condp (fe_t rfl) (fun hq3 => ?_) (fun hq4 => ?_)
      · try (exfalso; omega)
        all_goals
          refine tr_skip ?_
          refine tx_then ?_
          refine tr_seq ?_
          refine tr_block ?_
          refine tr_seq ?_
          refine tr_region ?_
          refine tl_step rfl (oj_val (y_index Try.underlying105 Try.sizeOf121 (fe_t rfl) (fe_t rfl) (rdl_out hr) (lenN hn) (by decide) (by omega) rfl) ?_)
          refine tl_step rfl (oj_val (y_ldA (cs := [(.int .i64 (n1 ns i)), (.int .i64 (n2 ns i))]) Try.isAgg121 Try.sizeOf121 (fe_t rfl) (rdl_out hr) rfl (by decide) (getN (by omega))) ?_)
          refine tl_step rfl (oj_alloc Try.zeroValue121 (fun bn => ?_))
          refine tl_step rfl (oj_storeW 0 Try.sizeOf121 (fe_t rfl) (fe_t rfl) rfl rfl rfl rfl rfl (?_))
          refine tl_nil ?_
          refine tx_then ?_
          refine tr_seq ?_
          have hwi : 1 ≤ n2 ns i ∧ n2 ns i ≤ 12 := by have h := g.w i (by omega); rw [ht, trOf_w] at h; exact h
          refine tr_draw (sel _ [0, 1]) (fun w h => h.sel _ rfl (by decide)) rfl ?_
          refine ta_float (i := 0) rfl (by kernel_rfl) (wants_none rfl) (yq_of (y_fieldAddr (td := 3) Try.underlying121 rfl rfl Try.sizeOf3 (o' := 0) rfl (fe_t rfl))) ?_
          refine ta_float (i := 1) rfl (by kernel_rfl) (wants_none rfl) (yq_of (y_ldb 0 Try.isAgg3 (fe_t rfl) rfl rfl)) ?_
          refine ta_float (i := 2) rfl (by kernel_rfl) (wants_none rfl) (yq_of (y_move (fe_t rfl))) ?_
          refine ta_float (i := 3) rfl (by kernel_rfl) (wants_none rfl) (yq_of (y_move (fe_t rfl))) ?_
          refine ta_float (i := 4) rfl (by kernel_rfl) (wants_none rfl) (yq_of (y_index Try.underlying105 Try.sizeOf121 (fe_t rfl) (fe_t rfl) (rdl_out hr) (lenN hn) (by decide) (by omega) rfl)) ?_
          refine ta_float (i := 5) rfl (by kernel_rfl) (wants_none rfl) (yq_of (y_fieldAddrE (td := 3) Try.underlying121 rfl rfl Try.sizeOf3 rfl (fe_t rfl) (rdl_out hr) (by rw [lenN hn]; omega))) ?_
          refine ta_float (i := 6) rfl (by kernel_rfl) (wants_none rfl) (yq_of (y_ld Try.isAgg3 (fe_t rfl) (rdl_out hr) (getN1 (by omega)))) ?_
          refine ta_float (i := 7) rfl (by kernel_rfl) (wants_none rfl) (yq_of (y_eq (fe_t rfl) (fe_t rfl))) ?_
          refine ta_done (by kernel_rfl) ?_
          refine tx_then ?_
          refine tr_condp (fe_t rfl) (fun hq5 => ?_) (fun hq6 => ?_)
          · try (exfalso; omega)
            all_goals
              refine tr_region ?_
              refine tl_step rfl (oj_val (y_move (fe_t rfl)) ?_)
              refine tl_step rfl (oj_val (y_fieldAddr (td := 3) Try.underlying121 rfl rfl Try.sizeOf3 (o' := 1) rfl (fe_t rfl)) ?_)
              refine tl_step rfl (oj_val (y_ldb 0 Try.isAgg3 (fe_t rfl) rfl rfl) ?_)
              refine tl_step rfl (oj_val (y_add (fe_t rfl) (fe_t rfl) (by omega)) ?_)
              refine tl_step rfl (oj_val (y_assign (fe_t rfl)) ?_)
              refine tl_nil ?_
              refine tx_in ?_
              refine tx_then ?_
              refine tr_region ?_
              refine tl_step rfl (oj_val (y_inc (fe_t rfl) fe_c (by omega)) ?_)
              refine tl_step rfl (oj_val (y_move (fe_t rfl)) ?_)
              refine tl_nil ?_
              apply tx_back2 (i + 1) (_)
              · exact (cov_cons (by first | rfl | exact v_int (by omega) | exact v_bool (by simp [*])) (cov_cons (by first | rfl | exact v_int (by omega) | exact v_bool (by simp [*])) (cov_nil)))
              · repeat (first | exact over_nil | refine over_put rfl ?_ | refine over_drop rfl ?_)
              · exact fun w h => h.pick [1] _ rfl (by decide)
              · exact ⟨⟨by omega, by rw [Tr.sumTo, ← hz, decide_eq_true (show t.u i = (p : Int) by rw [ht, trOf_u]; omega), cond_true, ht, trOf_w]⟩, by omega⟩
          · try (exfalso; omega)
            all_goals
              refine tr_skip ?_
              refine tx_in ?_
              refine tx_then ?_
              refine tr_region ?_
              refine tl_step rfl (oj_val (y_inc (fe_t rfl) fe_c (by omega)) ?_)
              refine tl_step rfl (oj_val (y_move (fe_t rfl)) ?_)
              refine tl_nil ?_
              apply tx_back2 (i + 1) (_)
              · exact (cov_cons (by first | rfl | exact v_int (by omega) | exact v_bool (by simp [*])) (cov_cons (by first | rfl | exact v_int (by omega) | exact v_bool (by simp [*])) (cov_nil)))
              · repeat (first | exact over_nil | refine over_put rfl ?_ | refine over_drop rfl ?_)
              · exact fun w h => h.pick [1] _ rfl (by decide)
              · exact ⟨⟨by omega, by rw [Tr.sumTo, ← hz, decide_eq_false (show ¬ t.u i = (p : Int) by rw [ht, trOf_u]; omega), cond_false]; omega⟩, by omega⟩
      · try (exfalso; omega)
        all_goals
          refine tr_exit ?_
          refine tx_then_exit ?_
          refine tx_then_exit ?_
          refine tx_in_exit ?_
          refine tx_then ?_
          refine tr_seq ?_
          refine tr_region ?_
          refine tl_step rfl (oj_val (y_move (fe_t rfl)) ?_)
          refine tl_step rfl (oj_val (y_move (fe_t rfl)) ?_)
          refine tl_step rfl (oj_val (y_index Try.underlying105 Try.sizeOf121 (fe_t rfl) (fe_t rfl) (rdl_out hr) (lenN hn) (by decide) (by omega) rfl) ?_)
          refine tl_step rfl (oj_val (y_fieldAddrE (td := 3) Try.underlying121 rfl rfl Try.sizeOf3 rfl (fe_t rfl) (rdl_out hr) (by rw [lenN hn]; omega)) ?_)
          refine tl_step rfl (oj_val (y_ld Try.isAgg3 (fe_t rfl) (rdl_out hr) (getN2 (by omega))) ?_)
          refine tl_step rfl (oj_val (y_move (fe_t rfl)) ?_)
          refine tl_step rfl (oj_val ((fun {u0 u1} hx hb => y_build (is := [0, 1]) (vs := [u0, u1]) (cs := [u0, u1]) rfl hx hb) (fel_cons (fe_t rfl) (fel_cons (fe_t rfl) fel_nil)) (by kernel_rfl)) ?_)
          refine tl_step rfl (oj_storeW 0 Try.sizeOf23 (fe_t rfl) (fe_t rfl) rfl rfl rfl rfl rfl (?_))
          refine tl_nil ?_
          refine tx_then ?_
          refine tr_ret ?_
          refine tx_ret (res1 Try.results153 (rok_b 0 Try.isAgg23 Try.sizeOf23 rfl rfl rfl)) (fun w' hS => ?_)
          exact ⟨by rw [show prt t k = (n2 ns k, z) by unfold prt; rw [if_neg (by omega), hz, show i = t.n by omega, show (t.u k).toNat = p by omega, ht, trOf_w]; rfl], hS.pick [] _ rfl (by decide)⟩

set_option maxRecDepth 100000 in
set_option maxHeartbeats 1000000 in
theorem path_w (A : Option Addr) (n c : Nat) (ns : List (Int × Int)) (w : World) (hr : Rd w A (ns.flatMap c2)) (hn : ns.length = n) (hm : n ≤ 140737488355328) {a : Int} (hw : ¬ wrongT ns = 0) :
    Calls Try.prog 85 #[.slice A n c, (.int .i64 a)] w fun e w' => e = .returned (.tuple #[.slice none 0 0, (.int .i64 (wrongT ns))]) ∧ St w w' [] := by
  refine calls_tr Try.func85 Try.ntmps85 rfl rfl (St.refl _) ?_
  refine tr_seq ?_
  refine tr_region ?_
  refine tl_step rfl (oj_val (y_assign fe_c) ?_)
  refine tl_step rfl (oj_val (y_assign fe_c) ?_)
  refine tl_nil ?_
  refine tx_then ?_
  refine tr_seq ?_
  refine tr_seq ?_
  refine tr_region ?_
  refine tl_step rfl (oj_val (y_move (fe_t rfl)) ?_)
  refine tl_step rfl (oj_callv Try.call88 fe_f (fel_cons (fe_t rfl) fel_nil) (fun w' hS => treeWrongE A n c ns w' (Rd.below hr hS.below) hn hm) ?_)
  refine tl_step rfl (oj_val (y_assign (fe_t rfl)) ?_)
  refine tl_nil ?_
  refine tx_then ?_
  refine tr_seq ?_
  refine tr_region ?_
  refine tl_step rfl (oj_val (y_move (fe_t rfl)) ?_)
  refine tl_step rfl (oj_val (y_neq (fe_t rfl) fe_c) ?_)
  refine tl_nil ?_
  refine tx_then ?_
  refine tr_condp (fe_t rfl) (fun hq1 => ?_) (fun hq2 => ?_)
  · try (exfalso; omega)
    all_goals
      refine tr_seq ?_
      refine tr_region ?_
      refine tl_step rfl (oj_val (y_move (fe_t rfl)) ?_)
      refine tl_step rfl (oj_val (y_assign fe_c) ?_)
      refine tl_step rfl (oj_val (y_assign (fe_t rfl)) ?_)
      refine tl_nil ?_
      refine tx_then ?_
      refine tr_ret ?_
      refine tx_then_ret ?_
      refine tx_ret (res2 Try.results85 (rok_t rfl) (rok_t rfl)) (fun w' hS => ?_)
      exact ⟨rfl, hS.pick [] _ rfl (by decide)⟩
  · exact absurd (by simpa using hq2) hw

set_option maxRecDepth 100000 in
set_option maxHeartbeats 1000000 in
theorem path_n (A : Option Addr) (n c : Nat) (ns : List (Int × Int)) (w : World) (hr : Rd w A (ns.flatMap c2)) (hn : ns.length = n) (hm : n ≤ 140737488355328) {a : Int} (hw : wrongT ns = 0) (ha : a < 0 ∨ (n : Int) ≤ a) :
    Calls Try.prog 85 #[.slice A n c, (.int .i64 a)] w fun e w' => e = .returned (.tuple #[.slice none 0 0, (.int .i64 3)]) ∧ St w w' [] := by
  refine calls_tr Try.func85 Try.ntmps85 rfl rfl (St.refl _) ?_
  refine tr_seq ?_
  refine tr_region ?_
  refine tl_step rfl (oj_val (y_assign fe_c) ?_)
  refine tl_step rfl (oj_val (y_assign fe_c) ?_)
  refine tl_nil ?_
  refine tx_then ?_
  refine tr_seq ?_
  refine tr_seq ?_
  refine tr_region ?_
  refine tl_step rfl (oj_val (y_move (fe_t rfl)) ?_)
  refine tl_step rfl (oj_callv Try.call88 fe_f (fel_cons (fe_t rfl) fel_nil) (fun w' hS => treeWrongE A n c ns w' (Rd.below hr hS.below) hn hm) ?_)
  refine tl_step rfl (oj_val (y_assign (fe_t rfl)) ?_)
  refine tl_nil ?_
  refine tx_then ?_
  refine tr_seq ?_
  refine tr_region ?_
  refine tl_step rfl (oj_val (y_move (fe_t rfl)) ?_)
  refine tl_step rfl (oj_val (y_neq (fe_t rfl) fe_c) ?_)
  refine tl_nil ?_
  refine tx_then ?_
  refine tr_condp (fe_t rfl) (fun hq1 => ?_) (fun hq2 => ?_)
  · exact absurd hw hq1
  · try (exfalso; omega)
    all_goals
      refine tr_skip ?_
      refine tx_then ?_
      refine tr_seq ?_
      refine tr_seq ?_
      refine tr_region ?_
      refine tl_step rfl (oj_val (y_move (fe_t rfl)) ?_)
      refine tl_step rfl (oj_val (y_lss (fe_t rfl) fe_c) ?_)
      refine tl_step rfl (oj_val (y_move (fe_t rfl)) ?_)
      refine tl_splitp (d := 15) rfl (fun hq3 => ?_) (fun hq4 => ?_)
      · try (exfalso; omega)
        all_goals
          refine tl_skip rfl rfl rfl rfl ?_
          refine tl_skip rfl rfl rfl rfl ?_
          refine tl_skip rfl rfl rfl rfl ?_
          refine tl_skip rfl rfl rfl rfl ?_
          refine tl_step rfl (oj_val (y_pickt (fe_t rfl) fe_c) ?_)
          refine tl_nil ?_
          refine tx_then ?_
          refine tr_condt (fe_t rfl) ?_
          refine tr_seq ?_
          refine tr_region ?_
          refine tl_step rfl (oj_val (y_assign fe_c) ?_)
          refine tl_step rfl (oj_val (y_assign fe_c) ?_)
          refine tl_nil ?_
          refine tx_then ?_
          refine tr_ret ?_
          refine tx_then_ret ?_
          refine tx_ret (res2 Try.results85 (rok_t rfl) (rok_t rfl)) (fun w' hS => ?_)
          exact ⟨rfl, hS.pick [] _ rfl (by decide)⟩
      · try (exfalso; omega)
        all_goals
          refine tl_want rfl rfl rfl (oj_val (y_move (fe_t rfl)) ?_)
          refine tl_want rfl rfl rfl (oj_val (y_move (fe_t rfl)) ?_)
          refine tl_want rfl rfl rfl (oj_val (y_len Try.underlying105 (fe_t rfl)) ?_)
          refine tl_want rfl rfl rfl (oj_val (y_geq (fe_t rfl) (fe_t rfl)) ?_)
          refine tl_step rfl (oj_val (y_pickf (fe_t rfl) (fe_t rfl)) ?_)
          refine tl_nil ?_
          refine tx_then ?_
          refine tr_condp (fe_t rfl) (fun hq5 => ?_) (fun hq6 => ?_)
          · try (exfalso; omega)
            all_goals
              refine tr_seq ?_
              refine tr_region ?_
              refine tl_step rfl (oj_val (y_assign fe_c) ?_)
              refine tl_step rfl (oj_val (y_assign fe_c) ?_)
              refine tl_nil ?_
              refine tx_then ?_
              refine tr_ret ?_
              refine tx_then_ret ?_
              refine tx_ret (res2 Try.results85 (rok_t rfl) (rok_t rfl)) (fun w' hS => ?_)
              exact ⟨rfl, hS.pick [] _ rfl (by decide)⟩
          · exfalso; omega

set_option maxRecDepth 100000 in
set_option maxHeartbeats 2000000 in
theorem path_ok (A : Option Addr) (n c : Nat) (ns : List (Int × Int)) (w : World) (hr : Rd w A (ns.flatMap c2)) (hn : ns.length = n) (hm : n ≤ 140737488355328) {t : Tr} (ht : t = trOf ns) (g : t.Good) (hw : wrongT ns = 0) {a : Nat} (ha : a < t.n) :
    Calls Try.prog 85 #[.slice A n c, (.int .i64 ((a : Int)))] w fun e w' => ∃ r : Vs, (r.n = (path t a).length ∧ r.xs = cI (kI (path t a))) ∧ e = .returned (.tuple #[.slice r.A r.n r.c, (.int .i64 0)]) ∧ St w w' [vec 3 1 (.slice r.A r.n r.c) r.n r.xs] := by
  have htn : t.n = n := by rw [ht, trOf_n, hn]
  have hn16 := g.n16
  have hn1 := g.n1
  refine calls_tr Try.func85 Try.ntmps85 rfl rfl (St.refl _) ?_
  refine tr_seq ?_
  refine tr_region ?_
  refine tl_step rfl (oj_val (y_assign fe_c) ?_)
  refine tl_step rfl (oj_val (y_assign fe_c) ?_)
  refine tl_nil ?_
  refine tx_then ?_
  refine tr_seq ?_
  refine tr_seq ?_
  refine tr_region ?_
  refine tl_step rfl (oj_val (y_move (fe_t rfl)) ?_)
  refine tl_step rfl (oj_callv Try.call88 fe_f (fel_cons (fe_t rfl) fel_nil) (fun w' hS => treeWrongE A n c ns w' (Rd.below hr hS.below) hn hm) ?_)
  refine tl_step rfl (oj_val (y_assign (fe_t rfl)) ?_)
  refine tl_nil ?_
  refine tx_then ?_
  refine tr_seq ?_
  refine tr_region ?_
  refine tl_step rfl (oj_val (y_move (fe_t rfl)) ?_)
  refine tl_step rfl (oj_val (y_neq (fe_t rfl) fe_c) ?_)
  refine tl_nil ?_
  refine tx_then ?_
  refine tr_condp (fe_t rfl) (fun hq1 => ?_) (fun hq2 => ?_)
  · exact absurd hw hq1
  · try (exfalso; omega)
    all_goals
      refine tr_skip ?_
      refine tx_then ?_
      refine tr_seq ?_
      refine tr_seq ?_
      refine tr_region ?_
      refine tl_step rfl (oj_val (y_move (fe_t rfl)) ?_)
      refine tl_step rfl (oj_val (y_lss (fe_t rfl) fe_c) ?_)
      refine tl_step rfl (oj_val (y_move (fe_t rfl)) ?_)
      refine tl_splitp (d := 15) rfl (fun hq3 => ?_) (fun hq4 => ?_)
      · try (exfalso; omega)
        all_goals
          refine tl_skip rfl rfl rfl rfl ?_
          refine tl_skip rfl rfl rfl rfl ?_
          refine tl_skip rfl rfl rfl rfl ?_
          refine tl_skip rfl rfl rfl rfl ?_
          refine tl_step rfl (oj_val (y_pickt (fe_t rfl) fe_c) ?_)
          refine tl_nil ?_
          refine tx_then ?_
          exfalso; omega
      · try (exfalso; omega)
        all_goals
          refine tl_want rfl rfl rfl (oj_val (y_move (fe_t rfl)) ?_)
          refine tl_want rfl rfl rfl (oj_val (y_move (fe_t rfl)) ?_)
          refine tl_want rfl rfl rfl (oj_val (y_len Try.underlying105 (fe_t rfl)) ?_)
          refine tl_want rfl rfl rfl (oj_val (y_geq (fe_t rfl) (fe_t rfl)) ?_)
          refine tl_step rfl (oj_val (y_pickf (fe_t rfl) (fe_t rfl)) ?_)
          refine tl_nil ?_
          refine tx_then ?_
          refine tr_condp (fe_t rfl) (fun hq5 => ?_) (fun hq6 => ?_)
          · exfalso; omega
          · try (exfalso; omega)
            all_goals
              refine tr_skip ?_
              refine tx_then ?_
              refine tr_seq ?_
              refine tr_region ?_
              refine tl_step rfl (oj_val (y_assign fe_c) ?_)
              refine tl_nil ?_
              refine tx_then ?_
              refine tr_seq ?_
              refine tr_block ?_
              refine tr_add (r := vec 3 1 (.slice none 0 0) 0 []) vec_nil rfl ?_
              refine tr_loop3 [1, 7, 21, 22, 23, 24, 25, 26, 27, 28, 29, 30, 31] (fun (k : Int) (o : List Nat) (z1 : Vs) => [(1, .int .i64 k), (7, .slice z1.A z1.n z1.c)]) 0 (fun (k : Int) (o : List Nat) (z1 : Vs) => [(0, vec 3 1 (.slice z1.A z1.n z1.c) z1.n z1.xs)]) (fun (k : Int) (o : List Nat) (z1 : Vs) => (-1 ≤ k ∧ k < t.n) ∧ path t a = upTo t k ++ o ∧ z1.n = o.length ∧ z1.xs = cI (kI o)) (fun (k : Int) (o : List Nat) (z1 : Vs) => (k + 1).toNat) ((a : Int)) ([]) (⟨none, 0, 0, []⟩ : Vs) (cov_cons (by first | rfl | exact v_int (by omega)) (cov_cons (by first | rfl | exact v_int (by omega)) (cov_nil))) (fun w h => h) ?_ ?_
              · try dsimp only
                exact ⟨by omega, by unfold upTo; rw [if_neg (by omega), List.append_nil, Int.toNat_natCast], rfl, rfl⟩
              intro k o z1 hp
              obtain ⟨hk, hpo, hzn, hzx⟩ := hp
              refine tr_seq ?_
              refine tr_seq ?_
              refine tr_region ?_
              refine tl_step rfl (oj_val (y_move (fe_t rfl)) ?_)
              refine tl_step rfl (oj_val (y_geq (fe_t rfl) fe_c) ?_)
              refine tl_nil ?_
              refine tx_then ?_
              refine tr_condp (fe_t rfl) (fun hq7 => ?_) (fun hq8 => ?_)
              · try (exfalso; omega)
                all_goals
                  refine tr_skip ?_
                  refine tx_then ?_
                  refine tr_seq ?_
                  refine tr_block ?_
                  obtain ⟨p, rfl⟩ : ∃ p : Nat, k = p := ⟨k.toNat, by omega⟩
                  have hpn : p < t.n := by omega
                  have hlt := g.lt hpn
                  have hnu : t.u p = n1 ns p := by rw [ht, trOf_u]
                  have hol : o.length ≤ 17 := by have h1 := congrArg List.length hpo; have h2 := path_len g a ha; rw [List.length_append] at h1; omega
                  have hol2 : (kI o).length = z1.n := by rw [kI_len, hzn]
                  refine tr_as (r' := vec 3 1 (.slice z1.A z1.n z1.c) z1.n (cI (kI o))) 0 rfl (congrArg (vec _ _ _ _) hzx) ?_
                  refine tr_region ?_
                  refine tl_step rfl (oj_val (y_move (fe_t rfl)) ?_)
                  refine tl_step rfl (oj_val (y_move (fe_t rfl)) ?_)
                  refine tl_step rfl (oj_slice1 Try.underlying79 Try.sizeOf3 Try.zeroValue3 (fe_t rfl) (by decide) rfl (fun b1 => ?_))
                  refine tl_step rfl (oj_call2 Try.call152 fe_f (fel_cons (fe_t rfl) (fel_cons fe_c (fel_cons (fe_t rfl) fel_nil))) (fun w' hS => insertE (hS.pick [1, 0] [_, _] rfl (by decide)) hol2 (by omega)) (fun q hQ => ?_))
                  refine tl_step rfl (oj_val (y_assign (fe_t rfl)) ?_)
                  refine tl_nil ?_
                  refine tx_in ?_
                  refine tx_then ?_
                  refine tr_region ?_
                  refine tl_step rfl (oj_val (y_move (fe_t rfl)) ?_)
                  refine tl_step rfl (oj_val (y_move (fe_t rfl)) ?_)
                  refine tl_step rfl (oj_val (y_index Try.underlying105 Try.sizeOf121 (fe_t rfl) (fe_t rfl) (rdl_out hr) (lenN hn) (by decide) (by omega) rfl) ?_)
                  refine tl_step rfl (oj_val (y_fieldAddrE (td := 3) Try.underlying121 rfl rfl Try.sizeOf3 rfl (fe_t rfl) (rdl_out hr) (by rw [lenN hn]; omega)) ?_)
                  refine tl_step rfl (oj_val (y_ld Try.isAgg3 (fe_t rfl) (rdl_out hr) (getN1 (by omega))) ?_)
                  refine tl_step rfl (oj_val (y_assign (fe_t rfl)) ?_)
                  refine tl_nil ?_
                  apply tx_back3 (t.u p) (p :: o) ((⟨_, _, _, _⟩ : Vs))
                  · exact (cov_cons (by first | rfl | exact v_int (by omega)) (cov_cons (by first | rfl | exact v_int (by omega)) (cov_nil)))
                  · repeat (first | exact over_nil | refine over_put rfl ?_ | refine over_drop rfl ?_)
                  · exact fun w h => h.pick [0] _ rfl (by decide)
                  · refine ⟨⟨by omega, by rw [hpo, upTo_step g hpn, List.append_assoc]; rfl, ?_, ?_⟩, by omega⟩
                    · dsimp only; rw [hQ.1, hzn]; rfl
                    · dsimp only; rw [hQ.2]; rfl
              · try (exfalso; omega)
                all_goals
                  refine tr_exit ?_
                  refine tx_then_exit ?_
                  refine tx_then_exit ?_
                  refine tx_in_exit ?_
                  refine tx_then ?_
                  refine tr_seq ?_
                  refine tr_region ?_
                  refine tl_step rfl (oj_val (y_move (fe_t rfl)) ?_)
                  refine tl_step rfl (oj_val (y_assign (fe_t rfl)) ?_)
                  refine tl_step rfl (oj_val (y_assign fe_c) ?_)
                  refine tl_nil ?_
                  refine tx_then ?_
                  refine tr_ret ?_
                  refine tx_ret (res2 Try.results85 (rok_t rfl) (rok_t rfl)) (fun w' hS => ?_)
                  have hpo2 : path t a = o := by rw [hpo, upTo_neg (by omega)]; rfl
                  exact ⟨z1, ⟨by rw [hzn, hpo2], by rw [hzx, hpo2]⟩, rfl, hS.pick [0] _ rfl (by decide)⟩

set_option maxRecDepth 100000 in
set_option maxHeartbeats 1000000 in
theorem share_w_ (A : Option Addr) (n c : Nat) (ns : List (Int × Int)) (w : World) (hr : Rd w A (ns.flatMap c2)) (hn : ns.length = n) (hm : n ≤ 140737488355328) {a : Int} (hw : ¬ wrongT ns = 0) :
    Calls Try.prog 86 #[.slice A n c, (.int .i64 a)] w fun e w' => e = .returned (.tuple #[.agg #[(.int .i64 0), (.int .i64 0)], (.int .i64 (wrongT ns))]) ∧ St w w' [] := by
  refine calls_tr Try.func86 Try.ntmps86 rfl rfl (St.refl _) ?_
  refine tr_seq ?_
  refine tr_region ?_
  refine tl_step rfl (oj_alloc Try.zeroValue23 (fun rb => ?_))
  refine tl_step rfl (oj_val (y_assign fe_c) ?_)
  refine tl_nil ?_
  refine tx_then ?_
  refine tr_seq ?_
  refine tr_region ?_
  refine tl_step rfl (oj_val (y_move (fe_t rfl)) ?_)
  refine tl_step rfl (oj_val (y_move (fe_t rfl)) ?_)
  refine tl_step rfl (oj_callv Try.call85 fe_f (fel_cons (fe_t rfl) (fel_cons (fe_t rfl) fel_nil)) (fun w' hS => path_w A n c ns w' (Rd.below hr hS.below) hn hm hw) ?_)
  refine tl_step rfl (oj_val (y_move (fe_t rfl)) ?_)
  refine tl_step rfl (oj_val (y_extract (fe_t rfl) rfl) ?_)
  refine tl_step rfl (oj_val (y_extract (fe_t rfl) rfl) ?_)
  refine tl_step rfl (oj_val (y_assign (fe_t rfl)) ?_)
  refine tl_step rfl (oj_val (y_assign (fe_t rfl)) ?_)
  refine tl_nil ?_
  refine tx_then ?_
  refine tr_seq ?_
  refine tr_seq ?_
  refine tr_region ?_
  refine tl_step rfl (oj_val (y_move (fe_t rfl)) ?_)
  refine tl_step rfl (oj_val (y_neq (fe_t rfl) fe_c) ?_)
  refine tl_nil ?_
  refine tx_then ?_
  refine tr_condp (fe_t rfl) (fun hq1 => ?_) (fun hq2 => ?_)
  · try (exfalso; omega)
    all_goals
      refine tr_seq ?_
      refine tr_region ?_
      refine tl_step rfl (oj_val (y_build (is := []) (vs := []) (cs := [.int .i64 0, .int .i64 0]) rfl fel_nil (by kernel_rfl)) ?_)
      refine tl_step rfl (oj_val (y_move (fe_t rfl)) ?_)
      refine tl_step rfl (oj_storeW 0 Try.sizeOf23 (fe_t rfl) (fe_t rfl) rfl rfl rfl rfl rfl (?_))
      refine tl_step rfl (oj_val (y_assign (fe_t rfl)) ?_)
      refine tl_nil ?_
      refine tx_then ?_
      refine tr_ret ?_
      refine tx_then_ret ?_
      refine tx_ret (res2 Try.results86 (rok_b 0 Try.isAgg23 Try.sizeOf23 rfl rfl rfl) (rok_t rfl)) (fun w' hS => ?_)
      exact ⟨rfl, hS.pick [] _ rfl (by decide)⟩
  · exact absurd (by simpa using hq2) hw

set_option maxRecDepth 100000 in
set_option maxHeartbeats 1000000 in
theorem share_n_ (A : Option Addr) (n c : Nat) (ns : List (Int × Int)) (w : World) (hr : Rd w A (ns.flatMap c2)) (hn : ns.length = n) (hm : n ≤ 140737488355328) {a : Int} (hw : wrongT ns = 0) (ha : a < 0 ∨ (n : Int) ≤ a) :
    Calls Try.prog 86 #[.slice A n c, (.int .i64 a)] w fun e w' => e = .returned (.tuple #[.agg #[(.int .i64 0), (.int .i64 0)], (.int .i64 3)]) ∧ St w w' [] := by
  refine calls_tr Try.func86 Try.ntmps86 rfl rfl (St.refl _) ?_
  refine tr_seq ?_
  refine tr_region ?_
  refine tl_step rfl (oj_alloc Try.zeroValue23 (fun rb => ?_))
  refine tl_step rfl (oj_val (y_assign fe_c) ?_)
  refine tl_nil ?_
  refine tx_then ?_
  refine tr_seq ?_
  refine tr_region ?_
  refine tl_step rfl (oj_val (y_move (fe_t rfl)) ?_)
  refine tl_step rfl (oj_val (y_move (fe_t rfl)) ?_)
  refine tl_step rfl (oj_callv Try.call85 fe_f (fel_cons (fe_t rfl) (fel_cons (fe_t rfl) fel_nil)) (fun w' hS => path_n A n c ns w' (Rd.below hr hS.below) hn hm hw ha) ?_)
  refine tl_step rfl (oj_val (y_move (fe_t rfl)) ?_)
  refine tl_step rfl (oj_val (y_extract (fe_t rfl) rfl) ?_)
  refine tl_step rfl (oj_val (y_extract (fe_t rfl) rfl) ?_)
  refine tl_step rfl (oj_val (y_assign (fe_t rfl)) ?_)
  refine tl_step rfl (oj_val (y_assign (fe_t rfl)) ?_)
  refine tl_nil ?_
  refine tx_then ?_
  refine tr_seq ?_
  refine tr_seq ?_
  refine tr_region ?_
  refine tl_step rfl (oj_val (y_move (fe_t rfl)) ?_)
  refine tl_step rfl (oj_val (y_neq (fe_t rfl) fe_c) ?_)
  refine tl_nil ?_
  refine tx_then ?_
  refine tr_condp (fe_t rfl) (fun hq1 => ?_) (fun hq2 => ?_)
  · try (exfalso; omega)
    all_goals
      refine tr_seq ?_
      refine tr_region ?_
      refine tl_step rfl (oj_val (y_build (is := []) (vs := []) (cs := [.int .i64 0, .int .i64 0]) rfl fel_nil (by kernel_rfl)) ?_)
      refine tl_step rfl (oj_val (y_move (fe_t rfl)) ?_)
      refine tl_step rfl (oj_storeW 0 Try.sizeOf23 (fe_t rfl) (fe_t rfl) rfl rfl rfl rfl rfl (?_))
      refine tl_step rfl (oj_val (y_assign (fe_t rfl)) ?_)
      refine tl_nil ?_
      refine tx_then ?_
      refine tr_ret ?_
      refine tx_then_ret ?_
      refine tx_ret (res2 Try.results86 (rok_b 0 Try.isAgg23 Try.sizeOf23 rfl rfl rfl) (rok_t rfl)) (fun w' hS => ?_)
      exact ⟨rfl, hS.pick [] _ rfl (by decide)⟩
  · exfalso; omega

set_option maxRecDepth 100000 in
set_option maxHeartbeats 2000000 in
theorem share_ok_ (A : Option Addr) (n c : Nat) (ns : List (Int × Int)) (w : World) (hr : Rd w A (ns.flatMap c2)) (hn : ns.length = n) (hm : n ≤ 140737488355328) {t : Tr} (ht : t = trOf ns) (g : t.Good) (hw : wrongT ns = 0) {a : Nat} (ha : a < t.n) :
    Calls Try.prog 86 #[.slice A n c, (.int .i64 ((a : Int)))] w fun e w' => e = .returned (.tuple #[.agg #[(.int .i64 ((share t a).1)), (.int .i64 ((share t a).2.1))], (.int .i64 ((share t a).2.2))]) ∧ St w w' [] := by
  have htn : t.n = n := by rw [ht, trOf_n, hn]
  have hn16 := g.n16
  have hn1 := g.n1
  refine calls_tr Try.func86 Try.ntmps86 rfl rfl (St.refl _) ?_
  refine tr_seq ?_
  refine tr_region ?_
  refine tl_step rfl (oj_alloc Try.zeroValue23 (fun rb => ?_))
  refine tl_step rfl (oj_val (y_assign fe_c) ?_)
  refine tl_nil ?_
  refine tx_then ?_
  refine tr_seq ?_
  refine tr_region ?_
  refine tl_step rfl (oj_val (y_move (fe_t rfl)) ?_)
  refine tl_step rfl (oj_val (y_move (fe_t rfl)) ?_)
  refine tl_step rfl (oj_call Try.call85 fe_f (fel_cons (fe_t rfl) (fel_cons (fe_t rfl) fel_nil)) (fun w' hS => path_ok A n c ns w' (Rd.below hr hS.below) hn hm ht g hw (a := a) ha) (fun r0 h0 => ?_))
  refine tl_step rfl (oj_val (y_move (fe_t rfl)) ?_)
  refine tl_step rfl (oj_val (y_extract (fe_t rfl) rfl) ?_)
  refine tl_step rfl (oj_val (y_extract (fe_t rfl) rfl) ?_)
  refine tl_step rfl (oj_val (y_assign (fe_t rfl)) ?_)
  refine tl_step rfl (oj_val (y_assign (fe_t rfl)) ?_)
  refine tl_nil ?_
  refine tx_then ?_
  refine tr_seq ?_
  refine tr_seq ?_
  refine tr_region ?_
  refine tl_step rfl (oj_val (y_move (fe_t rfl)) ?_)
  refine tl_step rfl (oj_val (y_neq (fe_t rfl) fe_c) ?_)
  refine tl_nil ?_
  refine tx_then ?_
  refine tr_condp (fe_t rfl) (fun hq1 => ?_) (fun hq2 => ?_)
  · exact absurd rfl hq1
  · try (exfalso; omega)
    all_goals
      refine tr_skip ?_
      refine tx_then ?_
      refine tr_seq ?_
      refine tr_as (r' := vec 3 1 (.slice r0.A r0.n r0.c) r0.n (cI (kI (path t a)))) 0 rfl (congrArg (vec _ _ _ _) h0.2) ?_
      have h01 := h0.1
      have hpl := path_len g a ha
      refine tr_region ?_
      refine tl_step rfl (oj_val ((fun {u0 u1} hx hb => y_build (is := [0, 1]) (vs := [u0, u1]) (cs := [u0, u1]) rfl hx hb) (fel_cons (fe_c (v := .int .i64 1)) (fel_cons (fe_c (v := .int .i64 1)) fel_nil)) (by kernel_rfl)) ?_)
      refine tl_step rfl (oj_alloc Try.zeroValue23 (fun al => ?_))
      refine tl_step rfl (oj_storeW 0 Try.sizeOf23 (fe_t rfl) (fe_t rfl) rfl rfl rfl rfl rfl (?_))
      refine tl_nil ?_
      refine tx_then ?_
      refine tr_seq ?_
      refine tr_seq ?_
      refine tr_region ?_
      refine tl_step rfl (oj_val (y_move (fe_t rfl)) ?_)
      refine tl_step rfl (oj_val (y_len Try.underlying79 (fe_t rfl)) ?_)
      refine tl_step rfl (oj_val (y_move fe_c) ?_)
      refine tl_nil ?_
      refine tx_then ?_
      refine tr_block ?_
      refine tr_loop3 [5, 10, 11, 12, 26, 27, 28, 29, 30, 31, 32, 33, 34, 35, 36, 37, 38, 39, 40, 41, 42, 43] (fun (i : Nat) (x : Int) (y : Int) => [(26, .int .i64 (i : Int))]) 0 (fun (i : Nat) (x : Int) (y : Int) => [(0, blk al [(.int .i64 x), (.int .i64 y)])]) (fun (i : Nat) (x : Int) (y : Int) => i ≤ (path t a).length ∧ shP t (path t a) i = (x, y, 0)) (fun (i : Nat) (x : Int) (y : Int) => (path t a).length - i) (0) (1) (1) (cov_cons (by first | rfl | exact v_int (by omega) | exact v_bool (by simp [*])) (cov_nil)) (fun w h => h) ?_ ?_
      · try dsimp only
        exact ⟨by omega, rfl⟩
      intro i x y hp
      obtain ⟨hi, hsh⟩ := hp
      refine tr_seq ?_
      refine tr_region ?_
      refine tl_step rfl (oj_val (y_lss (fe_t rfl) (fe_t rfl)) ?_)
      refine tl_nil ?_
      refine tx_then ?_
      refine tr_seq ?_
      refine tr_condp (fe_t rfl) (fun hq3 => ?_) (fun hq4 => ?_)
      · try (exfalso; omega)
        all_goals
          refine tr_skip ?_
          refine tx_then ?_
          refine tr_seq ?_
          refine tr_block ?_
          refine tr_seq ?_
          refine tr_region ?_
          refine tl_step rfl (oj_val (y_index Try.underlying79 Try.sizeOf3 (fe_t rfl) (fe_t rfl) (rdl_vec 1 rfl) (by simp [cI, kI_len]; omega) (by decide) (by omega) (Nat.mul_one _)) ?_)
          refine tl_step rfl (oj_val (y_ld Try.isAgg3 (fe_t rfl) (rdl_vec 1 rfl) (getC (by rw [kI_len]; omega))) ?_)
          refine tl_step rfl (oj_val (y_assign (fe_t rfl)) ?_)
          refine tl_nil ?_
          refine tx_then ?_
          refine tr_seq ?_
          obtain ⟨k, hk⟩ : ∃ k : Nat, k = (path t a).getD i 0 := ⟨_, rfl⟩
          have hkn : k < t.n := by rw [hk]; exact path_lt g a ha i (by omega)
          have hv : (kI (path t a)).getD i 0 = (k : Int) := by rw [kI_at (by omega), hk]
          have hbr := shP_ok g ha (by omega) hsh
          have hst := shP_step g ha (i := i) (by omega) (by rw [hsh])
          rw [hsh, ← hk] at hst
          refine tb_draw 11 (sel _ [0, 1, 2]) (fun w h => h.sel _ rfl (by decide)) rfl ?_
          refine tb_float (i := 0) rfl (by kernel_rfl) rfl (wants_none rfl) (yq_of (y_ldbA 0 Try.isAgg23 Try.sizeOf23 (fe_t rfl) rfl rfl rfl)) ?_
          refine tb_float (i := 1) rfl (by kernel_rfl) rfl (wants_none rfl) (yq_of (y_move (fe_t rfl))) ?_
          refine tb_float (i := 2) rfl (by kernel_rfl) rfl (wants_none rfl) (yq_of (y_move (fe_t rfl))) ?_
          refine tb_float (i := 3) rfl (by kernel_rfl) rfl (wants_none rfl) (yq_call Try.call153 fe_f (fel_cons (fe_t rfl) (fel_cons (fe_i hv rfl) fel_nil)) (fun w' hS => partE A n c ns w' (Rd.below hr hS.below) hn hm ht g (k := k) hkn)) ?_
          refine tb_float (i := 4) rfl (by kernel_rfl) rfl (wants_none rfl) (yq_call Try.call17 fe_f (fel_cons (fe_t rfl) (fel_cons (fe_t rfl) fel_nil)) (fun w' hS => mulE_ok hbr (prt_bright g hkn) w')) ?_
          refine tb_float (i := 5) rfl (by kernel_rfl) rfl (wants_none rfl) (yq_of (y_move (fe_t rfl))) ?_
          refine tb_float (i := 6) rfl (by kernel_rfl) rfl (wants_none rfl) (yq_of (y_extract (fe_t rfl) rfl)) ?_
          refine tb_float (i := 7) rfl (by kernel_rfl) rfl (wants_none rfl) (yq_of (y_extract (fe_t rfl) rfl)) ?_
          refine tb_one2 (i := 8) rfl (by kernel_rfl) (by kernel_rfl) (wants_none rfl) (oj_alloc Try.zeroValue23 (fun xb => ⟨fun w h => h.pick [1, 2, 3] _ rfl (by decide), ?_⟩))
          refine tb_one2 (i := 9) rfl (by kernel_rfl) (by kernel_rfl) (wants_none rfl) (oj_storeW 0 Try.sizeOf23 (fe_t rfl) (fe_t rfl) rfl rfl rfl rfl rfl (⟨fun w h => h.pick [1, 2, 3] _ rfl (by decide), ?_⟩))
          refine tb_float (i := 10) rfl (by kernel_rfl) rfl (wants_none rfl) (yq_of (y_assign (fe_t rfl))) ?_
          refine tb_done (by kernel_rfl) ?_
          refine tx_then ?_
          refine tr_seq ?_
          refine tr_seq ?_
          refine tr_region ?_
          refine tl_step rfl (oj_val (y_move (fe_t rfl)) ?_)
          refine tl_step rfl (oj_val (y_neq (fe_t rfl) fe_c) ?_)
          refine tl_nil ?_
          refine tx_then ?_
          refine tr_condp (fe_t rfl) (fun hq5 => ?_) (fun hq6 => ?_)
          · try (exfalso; omega)
            all_goals
              refine tr_seq ?_
              refine tr_region ?_
              refine tl_step rfl (oj_val (y_build (is := []) (vs := []) (cs := [.int .i64 0, .int .i64 0]) rfl fel_nil (by kernel_rfl)) ?_)
              refine tl_step rfl (oj_val (y_move (fe_t rfl)) ?_)
              refine tl_step rfl (oj_storeW 3 Try.sizeOf23 (fe_t rfl) (fe_t rfl) rfl rfl rfl rfl rfl (?_))
              refine tl_step rfl (oj_val (y_assign (fe_t rfl)) ?_)
              refine tl_nil ?_
              refine tx_then ?_
              refine tr_ret ?_
              refine tx_then_ret ?_
              refine tx_in_ret ?_
              refine tx_then_ret ?_
              refine tx_then_ret ?_
              refine tx_in_ret ?_
              refine tx_then_ret ?_
              refine tx_ret (res2 Try.results86 (rok_b 3 Try.isAgg23 Try.sizeOf23 rfl rfl rfl) (rok_t rfl)) (fun w' hS => ?_)
              exact ⟨by rw [shP_err g ha (i := i) (by omega) (by rw [hst]; omega), hst]; rfl, hS.pick [] _ rfl (by decide)⟩
          · try (exfalso; omega)
            all_goals
              refine tr_skip ?_
              refine tx_then ?_
              refine tr_region ?_
              refine tl_step rfl (oj_val (y_ldbA 0 Try.isAgg23 Try.sizeOf23 (fe_t rfl) rfl rfl rfl) ?_)
              refine tl_step rfl (oj_storeW 1 Try.sizeOf23 (fe_t rfl) (fe_t rfl) rfl rfl rfl rfl rfl (?_))
              refine tl_nil ?_
              refine tx_in ?_
              refine tx_then ?_
              refine tr_region ?_
              refine tl_step rfl (oj_val (y_inc (fe_t rfl) fe_c (by omega)) ?_)
              refine tl_step rfl (oj_val (y_move (fe_t rfl)) ?_)
              refine tl_nil ?_
              apply tx_back3 (i + 1) (_) (_)
              · exact (cov_cons (by first | rfl | exact v_int (by omega) | exact v_bool (by simp [*])) (cov_nil))
              · repeat (first | exact over_nil | refine over_put rfl ?_ | refine over_drop rfl ?_)
              · exact fun w h => h.pick [1, 2, 3] _ rfl (by decide)
              · exact ⟨⟨by omega, by rw [hst]; exact Prod.ext rfl (Prod.ext rfl (by dsimp only; omega))⟩, by omega⟩
      · try (exfalso; omega)
        all_goals
          refine tr_exit ?_
          refine tx_then_exit ?_
          refine tx_then_exit ?_
          refine tx_in_exit ?_
          refine tx_then ?_
          refine tr_seq ?_
          refine tr_region ?_
          refine tl_step rfl (oj_val (y_ldbA 0 Try.isAgg23 Try.sizeOf23 (fe_t rfl) rfl rfl rfl) ?_)
          refine tl_step rfl (oj_storeW 2 Try.sizeOf23 (fe_t rfl) (fe_t rfl) rfl rfl rfl rfl rfl (?_))
          refine tl_step rfl (oj_val (y_assign fe_c) ?_)
          refine tl_nil ?_
          refine tx_then ?_
          refine tr_ret ?_
          refine tx_ret (res2 Try.results86 (rok_b 2 Try.isAgg23 Try.sizeOf23 rfl rfl rfl) (rok_t rfl)) (fun w' hS => ?_)
          exact ⟨by rw [← shP_end g ha, show (path t a).length = i by omega, hsh]; rfl, hS.pick [] _ rfl (by decide)⟩

end Go.Proofs.Ytcpdelkamckmfaa.Hier
