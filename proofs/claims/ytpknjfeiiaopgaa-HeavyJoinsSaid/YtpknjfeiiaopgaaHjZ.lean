/- Equal of counts; the law HeavyJoins. -/
import Derived.Test.YtpknjfeiiaopgaaHjJ
import Derived.Test.YtpknjfeiiaopgaaHjW
namespace Go.Proofs.Ytpknjfeiiaopgaa.Heavy
open Go.RowKit Go.Proofs.Ytpknjfeiiaopgaa.E

theorem necnt {x y : Operand} (a b : Int) (w : World) : (do eqGuard .neq 92 x y (.agg #[(.int .i64 a), (.int .i64 b)]) (.agg #[(.int .i64 a), (.int .i64 b)]); binOp .neq 92 (.agg #[(.int .i64 a), (.int .i64 b)]) (.agg #[(.int .i64 a), (.int .i64 b)]) : Sem Value).run Try.prog w = .ok (.bool false) w := by
  have e1 : ∀ x y, Op.equal 92 x y = Op.equalIn (9998 + 1 + 1) 92 x y := fun _ _ => rfl
  simp [eqGuard, binOp, e1, go_sem]

set_option maxRecDepth 100000 in
set_option maxHeartbeats 1000000 in
theorem eq_counts (A B : Option Addr) (n c d : Nat) (l : List (Int × Int)) (w : World) (h1 : Rd w A (l.flatMap c2)) (h2 : Rd w B (l.flatMap c2)) (hn : l.length = n) (hm : n ≤ 140737488355328) :
    Calls Try.prog 48 #[.slice A n c, .slice B n d] w fun e w' => e = .returned (.bool true) ∧ St w w' [] := by
  refine calls_tr Try.func48 Try.ntmps48 rfl rfl (St.refl _) ?_
  refine tr_seq ?_
  refine tr_region ?_
  refine tl_step rfl (oj_val (y_assign fe_c) ?_)
  refine tl_nil ?_
  refine tx_then ?_
  refine tr_seq ?_
  refine tr_seq ?_
  refine tr_region ?_
  refine tl_step rfl (oj_val (y_move (fe_t rfl)) ?_)
  refine tl_step rfl (oj_val (y_len Try.underlying87 (fe_t rfl)) ?_)
  refine tl_step rfl (oj_val (y_move (fe_t rfl)) ?_)
  refine tl_step rfl (oj_val (y_len Try.underlying87 (fe_t rfl)) ?_)
  refine tl_step rfl (oj_val (y_neq (fe_t rfl) (fe_t rfl)) ?_)
  refine tl_nil ?_
  refine tx_then ?_
  refine tr_condp (fe_t rfl) (fun hq1 => ?_) (fun hq2 => ?_)
  · exact absurd rfl hq1
  · refine tr_skip ?_
    refine tx_then ?_
    refine tr_seq ?_
    refine tr_seq ?_
    refine tr_region ?_
    refine tl_step rfl (oj_val (y_move (fe_t rfl)) ?_)
    refine tl_step rfl (oj_val (y_len Try.underlying87 (fe_t rfl)) ?_)
    refine tl_step rfl (oj_val (y_move fe_c) ?_)
    refine tl_nil ?_
    refine tx_then ?_
    refine tr_block ?_
    refine tr_loop1 [4, 5, 13, 14, 15, 16, 17, 18, 19, 20, 21, 22, 23, 24, 25] (fun (k : Nat) => [(13, .int .i64 (k : Int))]) 0 (fun (k : Nat) => []) (fun (k : Nat) => k ≤ n) (fun (k : Nat) => n - k) (0) (cov_cons (by first | rfl | exact v_int (by omega) | exact v_bool (by simp [*])) (cov_nil)) (fun w h => h) ?_ ?_
    · try dsimp only
      omega
    intro k hp
    refine tr_seq ?_
    refine tr_region ?_
    refine tl_step rfl (oj_val (y_lss (fe_t rfl) (fe_t rfl)) ?_)
    refine tl_nil ?_
    refine tx_then ?_
    refine tr_seq ?_
    refine tr_condp (fe_t rfl) (fun hq3 => ?_) (fun hq4 => ?_)
    · refine tr_skip ?_
      refine tx_then ?_
      refine tr_seq ?_
      refine tr_block ?_
      refine tr_seq ?_
      refine tr_region ?_
      refine tl_step rfl (oj_val (y_move (fe_t rfl)) ?_)
      refine tl_step rfl (oj_val (y_assign (fe_t rfl)) ?_)
      refine tl_nil ?_
      refine tx_then ?_
      refine tr_seq ?_
      refine tr_draw (sel _ []) (fun w h => h.sel _ rfl (by decide)) rfl ?_
      refine ta_float (i := 0) rfl (by kernel_rfl) (wants_none rfl) (yq_of (y_move (fe_t rfl))) ?_
      refine ta_float (i := 1) rfl (by kernel_rfl) (wants_none rfl) (yq_of (y_move (fe_t rfl))) ?_
      refine ta_float (i := 2) rfl (by kernel_rfl) (wants_none rfl) (yq_of (y_index Try.underlying87 Try.sizeOf92 (fe_t rfl) (fe_t rfl) (rdl_out h1) (lenK hn) (by decide) (by omega) rfl)) ?_
      refine ta_float (i := 3) rfl (by kernel_rfl) (wants_none rfl) (yq_of (y_ldA (cs := [(.int .i64 (k1 l k)), (.int .i64 (k2 l k))]) Try.isAgg92 Try.sizeOf92 (fe_t rfl) (rdl_out h1) rfl (by decide) (getK (by omega)))) ?_
      refine ta_float (i := 4) rfl (by kernel_rfl) (wants_none rfl) (yq_of (y_move (fe_t rfl))) ?_
      refine ta_float (i := 5) rfl (by kernel_rfl) (wants_none rfl) (yq_of (y_move (fe_t rfl))) ?_
      refine ta_float (i := 6) rfl (by kernel_rfl) (wants_none rfl) (yq_of (y_index Try.underlying87 Try.sizeOf92 (fe_t rfl) (fe_t rfl) (rdl_out h2) (lenK hn) (by decide) (by omega) rfl)) ?_
      refine ta_float (i := 7) rfl (by kernel_rfl) (wants_none rfl) (yq_of (y_ldA (cs := [(.int .i64 (k1 l k)), (.int .i64 (k2 l k))]) Try.isAgg92 Try.sizeOf92 (fe_t rfl) (rdl_out h2) rfl (by decide) (getK (by omega)))) ?_
      refine ta_float (i := 8) rfl (by kernel_rfl) (wants_none rfl) (yq_of (y_binop (fe_t rfl) (fe_t rfl) (fun w => necnt _ _ w))) ?_
      refine ta_done (by kernel_rfl) ?_
      refine tx_then ?_
      refine tr_condf (fe_t rfl) ?_
      refine tr_skip ?_
      refine tx_in ?_
      refine tx_then ?_
      refine tr_region ?_
      refine tl_step rfl (oj_val (y_inc (fe_t rfl) fe_c (by omega)) ?_)
      refine tl_step rfl (oj_val (y_move (fe_t rfl)) ?_)
      refine tl_nil ?_
      apply tx_back1 (k + 1)
      · exact (cov_cons (by first | rfl | exact v_int (by omega) | exact v_bool (by simp [*])) (cov_nil))
      · repeat (first | exact over_nil | refine over_put rfl ?_ | refine over_drop rfl ?_)
      · exact fun w h => h.pick [] _ rfl (by decide)
      · exact ⟨by omega, by omega⟩
    · refine tr_exit ?_
      refine tx_then_exit ?_
      refine tx_then_exit ?_
      refine tx_in_exit ?_
      refine tx_then ?_
      refine tr_seq ?_
      refine tr_region ?_
      refine tl_step rfl (oj_val (y_assign fe_c) ?_)
      refine tl_nil ?_
      refine tx_then ?_
      refine tr_ret ?_
      refine tx_ret (res1 Try.results48 (rok_t rfl)) (fun w' hS => ?_)
      exact ⟨rfl, hS.pick [] _ rfl (by decide)⟩

theorem same_counts2 {a b : List (Int × Int)} {v u : Vs} (e : a = b) (h1 : v.n = a.length ∧ v.xs = a.flatMap c2 ∧ a.length ≤ 1000000) (h2 : u.n = b.length ∧ u.xs = b.flatMap c2) (w : World) (g1 : OwnV w 92 2 (.slice v.A v.n v.c) v.n v.xs) (g2 : OwnV w 92 2 (.slice u.A u.n u.c) u.n u.xs) :
    Calls Try.prog 48 #[.slice v.A v.n v.c, .slice u.A u.n u.c] w fun e w' => e = .returned (.bool true) ∧ St w w' [] := by
  subst e
  have r1 := (OwnV.rd g1).2.2
  have r2 := (OwnV.rd g2).2.2
  rw [h1.2.1] at r1
  rw [h2.2] at r2
  rw [show u.n = v.n by omega]
  exact eq_counts _ _ v.n _ _ a w r1 r2 h1.1.symm (by omega)

set_option maxRecDepth 100000 in
set_option maxHeartbeats 4000000 in
theorem law_ (A B : Option Addr) (n m c d : Nat) (a b : List (Int × Int)) (w : World) (hra : Rd w A (a.flatMap c2)) (hrb : Rd w B (b.flatMap c2)) (han : a.length = n) (hbn : b.length = m) (hn : n ≤ 140737488355328) (hm : m ≤ 140737488355328) {k : Int} :
    Calls Try.prog 9 #[(.int .i64 k), .slice A n c, .slice B m d] w fun e w' => e = .returned (.bool true) ∧ St w w' [] := by
  refine calls_tr Try.func9 Try.ntmps9 rfl rfl (St.refl _) ?_
  refine tr_seq ?_
  refine tr_region ?_
  refine tl_step rfl (oj_val (y_assign fe_c) ?_)
  refine tl_nil ?_
  refine tx_then ?_
  refine tr_seq ?_
  refine tr_region ?_
  refine tl_step rfl (oj_val (y_move (fe_t rfl)) ?_)
  refine tl_step rfl (oj_val (y_move (fe_t rfl)) ?_)
  refine tl_step rfl (oj_val (y_move (fe_t rfl)) ?_)
  refine tl_step rfl (oj_call Try.call46 fe_f (fel_cons (fe_t rfl) (fel_cons (fe_t rfl) (fel_cons (fe_t rfl) fel_nil))) (fun w' hS => joinE A B n m c d a b w' (Rd.below hra hS.below) (Rd.below hrb hS.below) han hbn hn hm) (fun r1 h1 => ?_))
  refine tl_step rfl (oj_val (y_move (fe_t rfl)) ?_)
  refine tl_step rfl (oj_val (y_extract (fe_t rfl) rfl) ?_)
  refine tl_step rfl (oj_val (y_extract (fe_t rfl) rfl) ?_)
  refine tl_step rfl (oj_val (y_assign (fe_t rfl)) ?_)
  refine tl_step rfl (oj_val (y_assign (fe_t rfl)) ?_)
  refine tl_nil ?_
  refine tx_then ?_
  refine tr_seq ?_
  refine tr_region ?_
  refine tl_step rfl (oj_val (y_move (fe_t rfl)) ?_)
  refine tl_step rfl (oj_val (y_move (fe_t rfl)) ?_)
  refine tl_step rfl (oj_val (y_move (fe_t rfl)) ?_)
  refine tl_step rfl (oj_call Try.call47 fe_f (fel_cons (fe_t rfl) (fel_cons (fe_t rfl) (fel_cons (fe_t rfl) fel_nil))) (fun w' hS => wjoinE A B n m c d a b w' (Rd.below hra hS.below) (Rd.below hrb hS.below) han hbn hn hm) (fun r2 h2 => ?_))
  refine tl_step rfl (oj_val (y_move (fe_t rfl)) ?_)
  refine tl_step rfl (oj_val (y_extract (fe_t rfl) rfl) ?_)
  refine tl_step rfl (oj_val (y_extract (fe_t rfl) rfl) ?_)
  refine tl_step rfl (oj_val (y_assign (fe_t rfl)) ?_)
  refine tl_step rfl (oj_val (y_assign (fe_t rfl)) ?_)
  refine tl_nil ?_
  refine tx_then ?_
  refine tr_seq ?_
  have hu := JR.uniq h1.1 h2.1
  have hu2 := hu.2
  refine tr_region ?_
  refine tl_step rfl (oj_val (y_move (fe_t rfl)) ?_)
  refine tl_step rfl (oj_val (y_move (fe_t rfl)) ?_)
  refine tl_step rfl (oj_val (y_eq (fe_t rfl) (fe_t rfl)) ?_)
  refine tl_step rfl (oj_val (y_move (fe_t rfl)) ?_)
  refine tl_splitp (d := 28) rfl (fun hq1 => ?_) (fun hq2 => ?_)
  · try (exfalso; omega)
    all_goals
      refine tl_want rfl rfl rfl (oj_val (y_move (fe_t rfl)) ?_)
      refine tl_want rfl rfl rfl (oj_val (y_move (fe_t rfl)) ?_)
      refine tl_want rfl rfl rfl (oj_callv Try.call48 fe_f (fel_cons (fe_t rfl) (fel_cons (fe_t rfl) fel_nil)) (fun w' hS => same_counts2 hu.1 h1.2 h2.2 w' (hS.holds 1 _ rfl) (hS.holds 0 _ rfl)) ?_)
      refine tl_step rfl (oj_val (y_pickt (fe_t rfl) (fe_t rfl)) ?_)
      refine tl_step rfl (oj_val (y_assign (fe_t rfl)) ?_)
      refine tl_nil ?_
      refine tx_then ?_
      refine tr_ret ?_
      refine tx_ret (res1 Try.results9 (rok_t rfl)) (fun w' hS => ?_)
      exact ⟨ret_bool (by first | rfl | (simp; done) | (simp [*]; done)), hS.pick [] _ rfl (by decide)⟩
  · try (exfalso; omega)
    all_goals
      refine tl_skip rfl rfl rfl rfl ?_
      refine tl_skip rfl rfl rfl rfl ?_
      refine tl_skip rfl rfl rfl rfl ?_
      refine tl_step rfl (oj_val (y_pickf (fe_t rfl) fe_c) ?_)
      refine tl_step rfl (oj_val (y_assign (fe_t rfl)) ?_)
      refine tl_nil ?_
      refine tx_then ?_
      refine tr_ret ?_
      refine tx_ret (res1 Try.results9 (rok_t rfl)) (fun w' hS => ?_)
      exact ⟨ret_bool (by first | rfl | (simp; done) | (simp [*]; done)), hS.pick [] _ rfl (by decide)⟩

end Go.Proofs.Ytpknjfeiiaopgaa.Heavy
