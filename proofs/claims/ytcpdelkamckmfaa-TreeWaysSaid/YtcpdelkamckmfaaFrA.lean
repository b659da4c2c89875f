/- Fractions of small numbers: gcd, lowest, Cmp, Add, Mul. -/
import Derived.Test.YtcpdelkamckmfaaFrZ
namespace Go.Proofs.Ytcpdelkamckmfaa.Frac
open Go.RowKit Go.Proofs.Ytcpdelkamckmfaa.E Go.Proofs.Ytcpdelkamckmfaa.Big

set_option maxRecDepth 100000 in
set_option maxHeartbeats 1000000 in
theorem gcdE (a b : Int) (ha : a.natAbs ≤ 9223372036854775807) (hb : b.natAbs ≤ 9223372036854775807) (w : World) :
    Calls Try.prog 109 #[(.int .i64 a), (.int .i64 b)] w fun e w' => e = .returned ((.int .i64 ((Int.gcd a b : Int)))) ∧ St w w' [] := by
  refine calls_tr Try.func109 Try.ntmps109 rfl rfl (St.refl _) ?_
  refine tr_seq ?_
  refine tr_region ?_
  refine tl_step rfl (oj_val (y_assign fe_c) ?_)
  refine tl_nil ?_
  refine tx_then ?_
  refine tr_seq ?_
  refine tr_block ?_
  refine tr_loop2 [0, 1, 5, 6, 7, 8, 9, 10] (fun (x : Int) (y : Int) => [(0, .int .i64 x), (1, .int .i64 y)]) 0 (fun (x : Int) (y : Int) => []) (fun (x : Int) (y : Int) => Int.gcd x y = Int.gcd a b ∧ x.natAbs ≤ 9223372036854775807 ∧ y.natAbs ≤ 9223372036854775807) (fun (x : Int) (y : Int) => y.natAbs) (a) (b) (cov_cons (by first | rfl | exact v_int (by omega) | exact v_bool (by simp [*])) (cov_cons (by first | rfl | exact v_int (by omega) | exact v_bool (by simp [*])) (cov_nil))) (fun w h => h) ?_ ?_
  · try dsimp only
    exact ⟨rfl, by omega, by omega⟩
  intro x y hp
  obtain ⟨hg, hx, hy⟩ := hp
  refine tr_seq ?_
  refine tr_seq ?_
  refine tr_region ?_
  refine tl_step rfl (oj_val (y_move (fe_t rfl)) ?_)
  refine tl_step rfl (oj_val (y_neq (fe_t rfl) fe_c) ?_)
  refine tl_nil ?_
  refine tx_then ?_
  refine tr_condp (fe_t rfl) (fun hq1 => ?_) (fun hq2 => ?_)
  · refine tr_skip ?_
    refine tx_then ?_
    refine tr_block ?_
    refine tb_draw 6 (sel _ []) (fun w h => h.sel _ rfl (by decide)) rfl ?_
    refine tb_float (i := 0) rfl (by kernel_rfl) rfl (wants_none rfl) (yq_of (y_move (fe_t rfl))) ?_
    refine tb_float (i := 1) rfl (by kernel_rfl) rfl (wants_none rfl) (yq_of (y_move (fe_t rfl))) ?_
    refine tb_float (i := 2) rfl (by kernel_rfl) rfl (wants_none rfl) (yq_of (y_move (fe_t rfl))) ?_
    refine tb_float (i := 3) rfl (by kernel_rfl) rfl (wants_none rfl) (yq_of (y_remt (fe_t rfl) (fe_t rfl) (by omega))) ?_
    refine tb_float (i := 4) rfl (by kernel_rfl) rfl (wants_none rfl) (yq_of (y_assign (fe_t rfl))) ?_
    refine tb_float (i := 5) rfl (by kernel_rfl) rfl (wants_none rfl) (yq_of (y_assign (fe_t rfl))) ?_
    refine tb_done (by kernel_rfl) ?_
    refine tx_in ?_
    apply tx_back2 (y) (x.tmod y)
    · exact (cov_cons (by first | rfl | exact v_int (by omega) | exact v_bool (by simp [*])) (cov_cons (by first | rfl | exact v_int (by omega) | exact v_bool (by simp [*])) (cov_nil)))
    · repeat (first | exact over_nil | refine over_put rfl ?_ | refine over_drop rfl ?_)
    · exact fun w h => h.pick [] _ rfl (by decide)
    · have hm := tmod_bd (a := x) (b := y) (by omega)
      exact ⟨⟨by rw [gcd_tmod, hg], by omega, by omega⟩, hm⟩
  · refine tr_exit ?_
    refine tx_then_exit ?_
    refine tx_then_exit ?_
    refine tx_in_exit ?_
    refine tx_then ?_
    refine tr_seq ?_
    refine tr_region ?_
    refine tl_step rfl (oj_val (y_move (fe_t rfl)) ?_)
    refine tl_step rfl (oj_val (y_move (fe_t rfl)) ?_)
    refine tl_step rfl (oj_val (y_neg (fe_t rfl) (by omega)) ?_)
    refine tl_step rfl (oj_val (y_max (fe_t rfl) (fe_t rfl)) ?_)
    refine tl_step rfl (oj_val (y_assign (fe_t rfl)) ?_)
    refine tl_nil ?_
    refine tx_then ?_
    refine tr_ret ?_
    refine tx_ret (res1 Try.results109 (rok_t rfl)) (fun w' hS => ?_)
    refine ⟨ret_int ?_, hS.pick [] _ rfl (by decide)⟩
    rw [← hg, show y = 0 by omega, Int.gcd_zero_right]
    omega

set_option maxRecDepth 100000 in
set_option maxHeartbeats 1000000 in
theorem lowest_ok (n d : Int) (h0 : -4611686018427387904 ≤ n) (h1 : n ≤ 4611686018427387904) (h2 : 0 < d) (h3 : d ≤ 4611686018427387904) (hr : bright (n.tdiv (Int.gcd n d : Int)) (d.tdiv (Int.gcd n d : Int)) = true) (w : World) :
    Calls Try.prog 104 #[(.int .i64 n), (.int .i64 d)] w fun e w' => e = .returned (.tuple #[.agg #[(.int .i64 ((lo (n) (d)).1)), (.int .i64 ((lo (n) (d)).2.1))], (.int .i64 ((lo (n) (d)).2.2))]) ∧ St w w' [] := by
  obtain ⟨e0, e1⟩ := gcd_facts (a := n) h2
  refine calls_tr Try.func104 Try.ntmps104 rfl rfl (St.refl _) ?_
  refine tr_seq ?_
  refine tr_region ?_
  refine tl_step rfl (oj_alloc Try.zeroValue23 (fun b1 => ?_))
  refine tl_step rfl (oj_val (y_assign fe_c) ?_)
  refine tl_nil ?_
  refine tx_then ?_
  refine tr_seq ?_
  refine tr_region ?_
  refine tl_step rfl (oj_val (y_move (fe_t rfl)) ?_)
  refine tl_step rfl (oj_val (y_move (fe_t rfl)) ?_)
  refine tl_step rfl (oj_callv Try.call109 fe_f (fel_cons (fe_t rfl) (fel_cons (fe_t rfl) fel_nil)) (fun w' hS => gcdE n d (by omega) (by omega) w') ?_)
  refine tl_step rfl (oj_val (y_assign (fe_t rfl)) ?_)
  refine tl_nil ?_
  refine tx_then ?_
  refine tr_seq ?_
  refine tb_draw 9 (sel _ [0]) (fun w h => h.sel _ rfl (by decide)) rfl ?_
  refine tb_float (i := 0) rfl (by kernel_rfl) rfl (wants_none rfl) (yq_of (y_move (fe_t rfl))) ?_
  refine tb_float (i := 1) rfl (by kernel_rfl) rfl (wants_none rfl) (yq_of (y_move (fe_t rfl))) ?_
  refine tb_float (i := 2) rfl (by kernel_rfl) rfl (wants_none rfl) (yq_of (y_quot (fe_t rfl) (fe_t rfl) (by omega) (by omega))) ?_
  refine tb_float (i := 3) rfl (by kernel_rfl) rfl (wants_none rfl) (yq_of (y_move (fe_t rfl))) ?_
  refine tb_float (i := 4) rfl (by kernel_rfl) rfl (wants_none rfl) (yq_of (y_move (fe_t rfl))) ?_
  refine tb_float (i := 5) rfl (by kernel_rfl) rfl (wants_none rfl) (yq_of (y_quot (fe_t rfl) (fe_t rfl) (by omega) (by omega))) ?_
  refine tb_float (i := 6) rfl (by kernel_rfl) rfl (wants_none rfl) (yq_of ((fun {u0 u1} hx hb => y_build (is := [0, 1]) (vs := [u0, u1]) (cs := [u0, u1]) rfl hx hb) (fel_cons (fe_t rfl) (fel_cons (fe_t rfl) fel_nil)) (by kernel_rfl))) ?_
  refine tb_one2 (i := 7) rfl (by kernel_rfl) (by kernel_rfl) (wants_none rfl) (oj_alloc Try.zeroValue23 (fun b2 => ⟨fun w h => h.pick [1] _ rfl (by decide), ?_⟩))
  refine tb_one2 (i := 8) rfl (by kernel_rfl) (by kernel_rfl) (wants_none rfl) (oj_storeW 0 Try.sizeOf23 (fe_t rfl) (fe_t rfl) rfl rfl rfl rfl rfl (⟨fun w h => h.pick [1] _ rfl (by decide), ?_⟩))
  refine tb_done (by kernel_rfl) ?_
  refine tx_then ?_
  refine tr_seq ?_
  refine tr_seq ?_
  refine tr_region ?_
  refine tl_step rfl (oj_val (y_ldbA 0 Try.isAgg23 Try.sizeOf23 (fe_t rfl) rfl rfl rfl) ?_)
  refine tl_step rfl (oj_callv Try.call18 fe_f (fel_cons (fe_t rfl) fel_nil) (fun w' hS => rightE hr w') ?_)
  refine tl_step rfl (oj_val (y_not (fe_t rfl)) ?_)
  refine tl_nil ?_
  refine tx_then ?_
  refine tr_condf (fe_t rfl) ?_
  refine tr_skip ?_
  refine tx_then ?_
  refine tr_seq ?_
  refine tr_region ?_
  refine tl_step rfl (oj_val (y_ldbA 0 Try.isAgg23 Try.sizeOf23 (fe_t rfl) rfl rfl rfl) ?_)
  refine tl_step rfl (oj_storeW 1 Try.sizeOf23 (fe_t rfl) (fe_t rfl) rfl rfl rfl rfl rfl (?_))
  refine tl_step rfl (oj_val (y_assign fe_c) ?_)
  refine tl_nil ?_
  refine tx_then ?_
  refine tr_ret ?_
  refine tx_ret (res2 Try.results104 (rok_b 1 Try.isAgg23 Try.sizeOf23 rfl rfl rfl) (rok_t rfl)) (fun w' hS => ?_)
  exact ⟨by rw [lo, hr]; rfl, hS.pick [] _ rfl (by decide)⟩

set_option maxRecDepth 100000 in
set_option maxHeartbeats 1000000 in
theorem lowest_bad (n d : Int) (h0 : -4611686018427387904 ≤ n) (h1 : n ≤ 4611686018427387904) (h2 : 0 < d) (h3 : d ≤ 4611686018427387904) (hr : bright (n.tdiv (Int.gcd n d : Int)) (d.tdiv (Int.gcd n d : Int)) = false) (w : World) :
    Calls Try.prog 104 #[(.int .i64 n), (.int .i64 d)] w fun e w' => e = .returned (.tuple #[.agg #[(.int .i64 ((lo (n) (d)).1)), (.int .i64 ((lo (n) (d)).2.1))], (.int .i64 ((lo (n) (d)).2.2))]) ∧ St w w' [] := by
  obtain ⟨e0, e1⟩ := gcd_facts (a := n) h2
  refine calls_tr Try.func104 Try.ntmps104 rfl rfl (St.refl _) ?_
  refine tr_seq ?_
  refine tr_region ?_
  refine tl_step rfl (oj_alloc Try.zeroValue23 (fun b1 => ?_))
  refine tl_step rfl (oj_val (y_assign fe_c) ?_)
  refine tl_nil ?_
  refine tx_then ?_
  refine tr_seq ?_
  refine tr_region ?_
  refine tl_step rfl (oj_val (y_move (fe_t rfl)) ?_)
  refine tl_step rfl (oj_val (y_move (fe_t rfl)) ?_)
  refine tl_step rfl (oj_callv Try.call109 fe_f (fel_cons (fe_t rfl) (fel_cons (fe_t rfl) fel_nil)) (fun w' hS => gcdE n d (by omega) (by omega) w') ?_)
  refine tl_step rfl (oj_val (y_assign (fe_t rfl)) ?_)
  refine tl_nil ?_
  refine tx_then ?_
  refine tr_seq ?_
  refine tb_draw 9 (sel _ [0]) (fun w h => h.sel _ rfl (by decide)) rfl ?_
  refine tb_float (i := 0) rfl (by kernel_rfl) rfl (wants_none rfl) (yq_of (y_move (fe_t rfl))) ?_
  refine tb_float (i := 1) rfl (by kernel_rfl) rfl (wants_none rfl) (yq_of (y_move (fe_t rfl))) ?_
  refine tb_float (i := 2) rfl (by kernel_rfl) rfl (wants_none rfl) (yq_of (y_quot (fe_t rfl) (fe_t rfl) (by omega) (by omega))) ?_
  refine tb_float (i := 3) rfl (by kernel_rfl) rfl (wants_none rfl) (yq_of (y_move (fe_t rfl))) ?_
  refine tb_float (i := 4) rfl (by kernel_rfl) rfl (wants_none rfl) (yq_of (y_move (fe_t rfl))) ?_
  refine tb_float (i := 5) rfl (by kernel_rfl) rfl (wants_none rfl) (yq_of (y_quot (fe_t rfl) (fe_t rfl) (by omega) (by omega))) ?_
  refine tb_float (i := 6) rfl (by kernel_rfl) rfl (wants_none rfl) (yq_of ((fun {u0 u1} hx hb => y_build (is := [0, 1]) (vs := [u0, u1]) (cs := [u0, u1]) rfl hx hb) (fel_cons (fe_t rfl) (fel_cons (fe_t rfl) fel_nil)) (by kernel_rfl))) ?_
  refine tb_one2 (i := 7) rfl (by kernel_rfl) (by kernel_rfl) (wants_none rfl) (oj_alloc Try.zeroValue23 (fun b2 => ⟨fun w h => h.pick [1] _ rfl (by decide), ?_⟩))
  refine tb_one2 (i := 8) rfl (by kernel_rfl) (by kernel_rfl) (wants_none rfl) (oj_storeW 0 Try.sizeOf23 (fe_t rfl) (fe_t rfl) rfl rfl rfl rfl rfl (⟨fun w h => h.pick [1] _ rfl (by decide), ?_⟩))
  refine tb_done (by kernel_rfl) ?_
  refine tx_then ?_
  refine tr_seq ?_
  refine tr_seq ?_
  refine tr_region ?_
  refine tl_step rfl (oj_val (y_ldbA 0 Try.isAgg23 Try.sizeOf23 (fe_t rfl) rfl rfl rfl) ?_)
  refine tl_step rfl (oj_callv Try.call18 fe_f (fel_cons (fe_t rfl) fel_nil) (fun w' hS => rightE hr w') ?_)
  refine tl_step rfl (oj_val (y_not (fe_t rfl)) ?_)
  refine tl_nil ?_
  refine tx_then ?_
  refine tr_condt (fe_t rfl) ?_
  refine tr_seq ?_
  refine tr_region ?_
  refine tl_step rfl (oj_val (y_build (is := []) (vs := []) (cs := [.int .i64 0, .int .i64 0]) rfl fel_nil (by kernel_rfl)) ?_)
  refine tl_step rfl (oj_storeW 1 Try.sizeOf23 (fe_t rfl) (fe_t rfl) rfl rfl rfl rfl rfl (?_))
  refine tl_step rfl (oj_val (y_assign fe_c) ?_)
  refine tl_nil ?_
  refine tx_then ?_
  refine tr_ret ?_
  refine tx_then_ret ?_
  refine tx_ret (res2 Try.results104 (rok_b 1 Try.isAgg23 Try.sizeOf23 rfl rfl rfl) (rok_t rfl)) (fun w' hS => ?_)
  exact ⟨by rw [lo, hr]; rfl, hS.pick [] _ rfl (by decide)⟩

theorem lowestE (n d : Int) (h0 : -4611686018427387904 ≤ n) (h1 : n ≤ 4611686018427387904) (h2 : 0 < d) (h3 : d ≤ 4611686018427387904) (w : World) :
    Calls Try.prog 104 #[(.int .i64 n), (.int .i64 d)] w fun e w' => e = .returned (.tuple #[.agg #[(.int .i64 ((lo (n) (d)).1)), (.int .i64 ((lo (n) (d)).2.1))], (.int .i64 ((lo (n) (d)).2.2))]) ∧ St w w' [] := by
  cases hr : bright (n.tdiv (Int.gcd n d : Int)) (d.tdiv (Int.gcd n d : Int))
  · exact lowest_bad n d h0 h1 h2 h3 hr w
  · exact lowest_ok n d h0 h1 h2 h3 hr w

set_option maxRecDepth 100000 in
set_option maxHeartbeats 1000000 in
theorem cmpE_a {n d n' d' : Int} (ha : bright n d = false) (w : World) :
    Calls Try.prog 15 #[.agg #[(.int .i64 n), (.int .i64 d)], .agg #[(.int .i64 n'), (.int .i64 d')]] w fun e w' => e = .returned (.tuple #[(.int .i64 0), (.int .i64 2)]) ∧ St w w' [] := by
  refine calls_tr Try.func15 Try.ntmps15 rfl rfl (St.refl _) ?_
  refine tr_seq ?_
  refine tr_region ?_
  refine tl_step rfl (oj_box (fe_t rfl) (fun b1 => ?_))
  refine tl_step rfl (oj_box (fe_t rfl) (fun b2 => ?_))
  refine tl_step rfl (oj_val (y_assign fe_c) ?_)
  refine tl_step rfl (oj_val (y_assign fe_c) ?_)
  refine tl_nil ?_
  refine tx_then ?_
  refine tr_seq ?_
  refine tr_seq ?_
  refine tr_region ?_
  refine tl_step rfl (oj_val (y_ldbA 1 Try.isAgg23 Try.sizeOf23 (fe_t rfl) rfl rfl rfl) ?_)
  refine tl_step rfl (oj_callv Try.call18 fe_f (fel_cons (fe_t rfl) fel_nil) (fun w' hS => rightE ha w') ?_)
  refine tl_step rfl (oj_val (y_not (fe_t rfl)) ?_)
  refine tl_step rfl (oj_val (y_move (fe_t rfl)) ?_)
  refine tl_skip rfl rfl rfl rfl ?_
  refine tl_skip rfl rfl rfl rfl ?_
  refine tl_skip rfl rfl rfl rfl ?_
  refine tl_step rfl (oj_val (y_pickt (fe_t rfl) fe_c) ?_)
  refine tl_nil ?_
  refine tx_then ?_
  refine tr_condt (fe_t rfl) ?_
  refine tr_seq ?_
  refine tr_region ?_
  refine tl_step rfl (oj_val (y_assign fe_c) ?_)
  refine tl_step rfl (oj_val (y_assign fe_c) ?_)
  refine tl_nil ?_
  refine tx_then ?_
  refine tr_ret ?_
  refine tx_then_ret ?_
  refine tx_ret (res2 Try.results15 (rok_t rfl) (rok_t rfl)) (fun w' hS => ?_)
  exact ⟨by first | rfl | (simp [cmpv, *]; done) | (simp only [cmpv]; repeat (first | rw [if_pos (by omega)] | rw [if_neg (by omega)])), hS.pick [] _ rfl (by decide)⟩

set_option maxRecDepth 100000 in
set_option maxHeartbeats 1000000 in
theorem addE_a {n d n' d' : Int} (ha : bright n d = false) (w : World) :
    Calls Try.prog 16 #[.agg #[(.int .i64 n), (.int .i64 d)], .agg #[(.int .i64 n'), (.int .i64 d')]] w fun e w' => e = .returned (.tuple #[.agg #[(.int .i64 0), (.int .i64 0)], (.int .i64 2)]) ∧ St w w' [] := by
  refine calls_tr Try.func16 Try.ntmps16 rfl rfl (St.refl _) ?_
  refine tr_seq ?_
  refine tr_region ?_
  refine tl_step rfl (oj_box (fe_t rfl) (fun b1 => ?_))
  refine tl_step rfl (oj_box (fe_t rfl) (fun b2 => ?_))
  refine tl_step rfl (oj_alloc Try.zeroValue23 (fun b3 => ?_))
  refine tl_step rfl (oj_val (y_assign fe_c) ?_)
  refine tl_nil ?_
  refine tx_then ?_
  refine tr_seq ?_
  refine tr_seq ?_
  refine tr_region ?_
  refine tl_step rfl (oj_val (y_ldbA 2 Try.isAgg23 Try.sizeOf23 (fe_t rfl) rfl rfl rfl) ?_)
  refine tl_step rfl (oj_callv Try.call18 fe_f (fel_cons (fe_t rfl) fel_nil) (fun w' hS => rightE ha w') ?_)
  refine tl_step rfl (oj_val (y_not (fe_t rfl)) ?_)
  refine tl_step rfl (oj_val (y_move (fe_t rfl)) ?_)
  refine tl_skip rfl rfl rfl rfl ?_
  refine tl_skip rfl rfl rfl rfl ?_
  refine tl_skip rfl rfl rfl rfl ?_
  refine tl_step rfl (oj_val (y_pickt (fe_t rfl) fe_c) ?_)
  refine tl_nil ?_
  refine tx_then ?_
  refine tr_condt (fe_t rfl) ?_
  refine tr_seq ?_
  refine tr_region ?_
  refine tl_step rfl (oj_val (y_build (is := []) (vs := []) (cs := [.int .i64 0, .int .i64 0]) rfl fel_nil (by kernel_rfl)) ?_)
  refine tl_step rfl (oj_storeW 0 Try.sizeOf23 (fe_t rfl) (fe_t rfl) rfl rfl rfl rfl rfl (?_))
  refine tl_step rfl (oj_val (y_assign fe_c) ?_)
  refine tl_nil ?_
  refine tx_then ?_
  refine tr_ret ?_
  refine tx_then_ret ?_
  refine tx_ret (res2 Try.results16 (rok_b 0 Try.isAgg23 Try.sizeOf23 rfl rfl rfl) (rok_t rfl)) (fun w' hS => ?_)
  exact ⟨by first | rfl | (simp [cmpv, *]; done) | (simp only [cmpv]; repeat (first | rw [if_pos (by omega)] | rw [if_neg (by omega)])), hS.pick [] _ rfl (by decide)⟩

set_option maxRecDepth 100000 in
set_option maxHeartbeats 1000000 in
theorem mulE_a {n d n' d' : Int} (ha : bright n d = false) (w : World) :
    Calls Try.prog 17 #[.agg #[(.int .i64 n), (.int .i64 d)], .agg #[(.int .i64 n'), (.int .i64 d')]] w fun e w' => e = .returned (.tuple #[.agg #[(.int .i64 0), (.int .i64 0)], (.int .i64 2)]) ∧ St w w' [] := by
  refine calls_tr Try.func17 Try.ntmps17 rfl rfl (St.refl _) ?_
  refine tr_seq ?_
  refine tr_region ?_
  refine tl_step rfl (oj_box (fe_t rfl) (fun b1 => ?_))
  refine tl_step rfl (oj_box (fe_t rfl) (fun b2 => ?_))
  refine tl_step rfl (oj_alloc Try.zeroValue23 (fun b3 => ?_))
  refine tl_step rfl (oj_val (y_assign fe_c) ?_)
  refine tl_nil ?_
  refine tx_then ?_
  refine tr_seq ?_
  refine tr_seq ?_
  refine tr_region ?_
  refine tl_step rfl (oj_val (y_ldbA 2 Try.isAgg23 Try.sizeOf23 (fe_t rfl) rfl rfl rfl) ?_)
  refine tl_step rfl (oj_callv Try.call18 fe_f (fel_cons (fe_t rfl) fel_nil) (fun w' hS => rightE ha w') ?_)
  refine tl_step rfl (oj_val (y_not (fe_t rfl)) ?_)
  refine tl_step rfl (oj_val (y_move (fe_t rfl)) ?_)
  refine tl_skip rfl rfl rfl rfl ?_
  refine tl_skip rfl rfl rfl rfl ?_
  refine tl_skip rfl rfl rfl rfl ?_
  refine tl_step rfl (oj_val (y_pickt (fe_t rfl) fe_c) ?_)
  refine tl_nil ?_
  refine tx_then ?_
  refine tr_condt (fe_t rfl) ?_
  refine tr_seq ?_
  refine tr_region ?_
  refine tl_step rfl (oj_val (y_build (is := []) (vs := []) (cs := [.int .i64 0, .int .i64 0]) rfl fel_nil (by kernel_rfl)) ?_)
  refine tl_step rfl (oj_storeW 0 Try.sizeOf23 (fe_t rfl) (fe_t rfl) rfl rfl rfl rfl rfl (?_))
  refine tl_step rfl (oj_val (y_assign fe_c) ?_)
  refine tl_nil ?_
  refine tx_then ?_
  refine tr_ret ?_
  refine tx_then_ret ?_
  refine tx_ret (res2 Try.results17 (rok_b 0 Try.isAgg23 Try.sizeOf23 rfl rfl rfl) (rok_t rfl)) (fun w' hS => ?_)
  exact ⟨by first | rfl | (simp [cmpv, *]; done) | (simp only [cmpv]; repeat (first | rw [if_pos (by omega)] | rw [if_neg (by omega)])), hS.pick [] _ rfl (by decide)⟩

set_option maxRecDepth 100000 in
set_option maxHeartbeats 1000000 in
theorem cmpE_b {n d n' d' : Int} (ha : bright n d = true) (hb : bright n' d' = false) (w : World) :
    Calls Try.prog 15 #[.agg #[(.int .i64 n), (.int .i64 d)], .agg #[(.int .i64 n'), (.int .i64 d')]] w fun e w' => e = .returned (.tuple #[(.int .i64 0), (.int .i64 2)]) ∧ St w w' [] := by
  refine calls_tr Try.func15 Try.ntmps15 rfl rfl (St.refl _) ?_
  refine tr_seq ?_
  refine tr_region ?_
  refine tl_step rfl (oj_box (fe_t rfl) (fun b1 => ?_))
  refine tl_step rfl (oj_box (fe_t rfl) (fun b2 => ?_))
  refine tl_step rfl (oj_val (y_assign fe_c) ?_)
  refine tl_step rfl (oj_val (y_assign fe_c) ?_)
  refine tl_nil ?_
  refine tx_then ?_
  refine tr_seq ?_
  refine tr_seq ?_
  refine tr_region ?_
  refine tl_step rfl (oj_val (y_ldbA 1 Try.isAgg23 Try.sizeOf23 (fe_t rfl) rfl rfl rfl) ?_)
  refine tl_step rfl (oj_callv Try.call18 fe_f (fel_cons (fe_t rfl) fel_nil) (fun w' hS => rightE ha w') ?_)
  refine tl_step rfl (oj_val (y_not (fe_t rfl)) ?_)
  refine tl_step rfl (oj_val (y_move (fe_t rfl)) ?_)
  refine tl_want rfl rfl rfl (oj_val (y_ldbA 0 Try.isAgg23 Try.sizeOf23 (fe_t rfl) rfl rfl rfl) ?_)
  refine tl_want rfl rfl rfl (oj_callv Try.call18 fe_f (fel_cons (fe_t rfl) fel_nil) (fun w' hS => rightE hb w') ?_)
  refine tl_want rfl rfl rfl (oj_val (y_not (fe_t rfl)) ?_)
  refine tl_step rfl (oj_val (y_pickf (fe_t rfl) (fe_t rfl)) ?_)
  refine tl_nil ?_
  refine tx_then ?_
  refine tr_condt (fe_t rfl) ?_
  refine tr_seq ?_
  refine tr_region ?_
  refine tl_step rfl (oj_val (y_assign fe_c) ?_)
  refine tl_step rfl (oj_val (y_assign fe_c) ?_)
  refine tl_nil ?_
  refine tx_then ?_
  refine tr_ret ?_
  refine tx_then_ret ?_
  refine tx_ret (res2 Try.results15 (rok_t rfl) (rok_t rfl)) (fun w' hS => ?_)
  exact ⟨by first | rfl | (simp [cmpv, *]; done) | (simp only [cmpv]; repeat (first | rw [if_pos (by omega)] | rw [if_neg (by omega)])), hS.pick [] _ rfl (by decide)⟩

set_option maxRecDepth 100000 in
set_option maxHeartbeats 1000000 in
theorem addE_b {n d n' d' : Int} (ha : bright n d = true) (hb : bright n' d' = false) (w : World) :
    Calls Try.prog 16 #[.agg #[(.int .i64 n), (.int .i64 d)], .agg #[(.int .i64 n'), (.int .i64 d')]] w fun e w' => e = .returned (.tuple #[.agg #[(.int .i64 0), (.int .i64 0)], (.int .i64 2)]) ∧ St w w' [] := by
  refine calls_tr Try.func16 Try.ntmps16 rfl rfl (St.refl _) ?_
  refine tr_seq ?_
  refine tr_region ?_
  refine tl_step rfl (oj_box (fe_t rfl) (fun b1 => ?_))
  refine tl_step rfl (oj_box (fe_t rfl) (fun b2 => ?_))
  refine tl_step rfl (oj_alloc Try.zeroValue23 (fun b3 => ?_))
  refine tl_step rfl (oj_val (y_assign fe_c) ?_)
  refine tl_nil ?_
  refine tx_then ?_
  refine tr_seq ?_
  refine tr_seq ?_
  refine tr_region ?_
  refine tl_step rfl (oj_val (y_ldbA 2 Try.isAgg23 Try.sizeOf23 (fe_t rfl) rfl rfl rfl) ?_)
  refine tl_step rfl (oj_callv Try.call18 fe_f (fel_cons (fe_t rfl) fel_nil) (fun w' hS => rightE ha w') ?_)
  refine tl_step rfl (oj_val (y_not (fe_t rfl)) ?_)
  refine tl_step rfl (oj_val (y_move (fe_t rfl)) ?_)
  refine tl_want rfl rfl rfl (oj_val (y_ldbA 1 Try.isAgg23 Try.sizeOf23 (fe_t rfl) rfl rfl rfl) ?_)
  refine tl_want rfl rfl rfl (oj_callv Try.call18 fe_f (fel_cons (fe_t rfl) fel_nil) (fun w' hS => rightE hb w') ?_)
  refine tl_want rfl rfl rfl (oj_val (y_not (fe_t rfl)) ?_)
  refine tl_step rfl (oj_val (y_pickf (fe_t rfl) (fe_t rfl)) ?_)
  refine tl_nil ?_
  refine tx_then ?_
  refine tr_condt (fe_t rfl) ?_
  refine tr_seq ?_
  refine tr_region ?_
  refine tl_step rfl (oj_val (y_build (is := []) (vs := []) (cs := [.int .i64 0, .int .i64 0]) rfl fel_nil (by kernel_rfl)) ?_)
  refine tl_step rfl (oj_storeW 0 Try.sizeOf23 (fe_t rfl) (fe_t rfl) rfl rfl rfl rfl rfl (?_))
  refine tl_step rfl (oj_val (y_assign fe_c) ?_)
  refine tl_nil ?_
  refine tx_then ?_
  refine tr_ret ?_
  refine tx_then_ret ?_
  refine tx_ret (res2 Try.results16 (rok_b 0 Try.isAgg23 Try.sizeOf23 rfl rfl rfl) (rok_t rfl)) (fun w' hS => ?_)
  exact ⟨by first | rfl | (simp [cmpv, *]; done) | (simp only [cmpv]; repeat (first | rw [if_pos (by omega)] | rw [if_neg (by omega)])), hS.pick [] _ rfl (by decide)⟩

set_option maxRecDepth 100000 in
set_option maxHeartbeats 1000000 in
theorem mulE_b {n d n' d' : Int} (ha : bright n d = true) (hb : bright n' d' = false) (w : World) :
    Calls Try.prog 17 #[.agg #[(.int .i64 n), (.int .i64 d)], .agg #[(.int .i64 n'), (.int .i64 d')]] w fun e w' => e = .returned (.tuple #[.agg #[(.int .i64 0), (.int .i64 0)], (.int .i64 2)]) ∧ St w w' [] := by
  refine calls_tr Try.func17 Try.ntmps17 rfl rfl (St.refl _) ?_
  refine tr_seq ?_
  refine tr_region ?_
  refine tl_step rfl (oj_box (fe_t rfl) (fun b1 => ?_))
  refine tl_step rfl (oj_box (fe_t rfl) (fun b2 => ?_))
  refine tl_step rfl (oj_alloc Try.zeroValue23 (fun b3 => ?_))
  refine tl_step rfl (oj_val (y_assign fe_c) ?_)
  refine tl_nil ?_
  refine tx_then ?_
  refine tr_seq ?_
  refine tr_seq ?_
  refine tr_region ?_
  refine tl_step rfl (oj_val (y_ldbA 2 Try.isAgg23 Try.sizeOf23 (fe_t rfl) rfl rfl rfl) ?_)
  refine tl_step rfl (oj_callv Try.call18 fe_f (fel_cons (fe_t rfl) fel_nil) (fun w' hS => rightE ha w') ?_)
  refine tl_step rfl (oj_val (y_not (fe_t rfl)) ?_)
  refine tl_step rfl (oj_val (y_move (fe_t rfl)) ?_)
  refine tl_want rfl rfl rfl (oj_val (y_ldbA 1 Try.isAgg23 Try.sizeOf23 (fe_t rfl) rfl rfl rfl) ?_)
  refine tl_want rfl rfl rfl (oj_callv Try.call18 fe_f (fel_cons (fe_t rfl) fel_nil) (fun w' hS => rightE hb w') ?_)
  refine tl_want rfl rfl rfl (oj_val (y_not (fe_t rfl)) ?_)
  refine tl_step rfl (oj_val (y_pickf (fe_t rfl) (fe_t rfl)) ?_)
  refine tl_nil ?_
  refine tx_then ?_
  refine tr_condt (fe_t rfl) ?_
  refine tr_seq ?_
  refine tr_region ?_
  refine tl_step rfl (oj_val (y_build (is := []) (vs := []) (cs := [.int .i64 0, .int .i64 0]) rfl fel_nil (by kernel_rfl)) ?_)
  refine tl_step rfl (oj_storeW 0 Try.sizeOf23 (fe_t rfl) (fe_t rfl) rfl rfl rfl rfl rfl (?_))
  refine tl_step rfl (oj_val (y_assign fe_c) ?_)
  refine tl_nil ?_
  refine tx_then ?_
  refine tr_ret ?_
  refine tx_then_ret ?_
  refine tx_ret (res2 Try.results17 (rok_b 0 Try.isAgg23 Try.sizeOf23 rfl rfl rfl) (rok_t rfl)) (fun w' hS => ?_)
  exact ⟨by first | rfl | (simp [cmpv, *]; done) | (simp only [cmpv]; repeat (first | rw [if_pos (by omega)] | rw [if_neg (by omega)])), hS.pick [] _ rfl (by decide)⟩

set_option maxRecDepth 100000 in
set_option maxHeartbeats 1000000 in
theorem cmpE_ok {n d n' d' : Int} (ha : bright n d = true) (hb : bright n' d' = true) (w : World) :
    Calls Try.prog 15 #[.agg #[(.int .i64 n), (.int .i64 d)], .agg #[(.int .i64 n'), (.int .i64 d')]] w fun e w' => e = .returned (.tuple #[(.int .i64 (cmpv n d n' d')), (.int .i64 0)]) ∧ St w w' [] := by
  have hbd := bd4 ha hb
  obtain ⟨⟨m1, m2⟩, ⟨m3, m4⟩, ⟨m5, m6⟩, m7, m8⟩ := hbd
  refine calls_tr Try.func15 Try.ntmps15 rfl rfl (St.refl _) ?_
  refine tr_seq ?_
  refine tr_region ?_
  refine tl_step rfl (oj_box (fe_t rfl) (fun b1 => ?_))
  refine tl_step rfl (oj_box (fe_t rfl) (fun b2 => ?_))
  refine tl_step rfl (oj_val (y_assign fe_c) ?_)
  refine tl_step rfl (oj_val (y_assign fe_c) ?_)
  refine tl_nil ?_
  refine tx_then ?_
  refine tr_seq ?_
  refine tr_seq ?_
  refine tr_region ?_
  refine tl_step rfl (oj_val (y_ldbA 1 Try.isAgg23 Try.sizeOf23 (fe_t rfl) rfl rfl rfl) ?_)
  refine tl_step rfl (oj_callv Try.call18 fe_f (fel_cons (fe_t rfl) fel_nil) (fun w' hS => rightE ha w') ?_)
  refine tl_step rfl (oj_val (y_not (fe_t rfl)) ?_)
  refine tl_step rfl (oj_val (y_move (fe_t rfl)) ?_)
  refine tl_want rfl rfl rfl (oj_val (y_ldbA 0 Try.isAgg23 Try.sizeOf23 (fe_t rfl) rfl rfl rfl) ?_)
  refine tl_want rfl rfl rfl (oj_callv Try.call18 fe_f (fel_cons (fe_t rfl) fel_nil) (fun w' hS => rightE hb w') ?_)
  refine tl_want rfl rfl rfl (oj_val (y_not (fe_t rfl)) ?_)
  refine tl_step rfl (oj_val (y_pickf (fe_t rfl) (fe_t rfl)) ?_)
  refine tl_nil ?_
  refine tx_then ?_
  refine tr_condf (fe_t rfl) ?_
  refine tr_skip ?_
  refine tx_then ?_
  refine tr_seq ?_
  refine tb_draw 12 (sel _ [0, 1]) (fun w h => h.sel _ rfl (by decide)) rfl ?_
  refine tb_float (i := 0) rfl (by kernel_rfl) rfl (wants_none rfl) (yq_of (y_fieldAddr (td := 3) Try.underlying23 rfl rfl Try.sizeOf3 (o' := 0) rfl (fe_t rfl))) ?_
  refine tb_float (i := 1) rfl (by kernel_rfl) rfl (wants_none rfl) (yq_of (y_ldb 1 Try.isAgg3 (fe_t rfl) rfl rfl)) ?_
  refine tb_float (i := 2) rfl (by kernel_rfl) rfl (wants_none rfl) (yq_of (y_fieldAddr (td := 3) Try.underlying23 rfl rfl Try.sizeOf3 (o' := 1) rfl (fe_t rfl))) ?_
  refine tb_float (i := 3) rfl (by kernel_rfl) rfl (wants_none rfl) (yq_of (y_ldb 0 Try.isAgg3 (fe_t rfl) rfl rfl)) ?_
  refine tb_float (i := 4) rfl (by kernel_rfl) rfl (wants_none rfl) (yq_of (y_mul (fe_t rfl) (fe_t rfl) (by omega))) ?_
  refine tb_float (i := 5) rfl (by kernel_rfl) rfl (wants_none rfl) (yq_of (y_fieldAddr (td := 3) Try.underlying23 rfl rfl Try.sizeOf3 (o' := 0) rfl (fe_t rfl))) ?_
  refine tb_float (i := 6) rfl (by kernel_rfl) rfl (wants_none rfl) (yq_of (y_ldb 0 Try.isAgg3 (fe_t rfl) rfl rfl)) ?_
  refine tb_float (i := 7) rfl (by kernel_rfl) rfl (wants_none rfl) (yq_of (y_fieldAddr (td := 3) Try.underlying23 rfl rfl Try.sizeOf3 (o' := 1) rfl (fe_t rfl))) ?_
  refine tb_float (i := 8) rfl (by kernel_rfl) rfl (wants_none rfl) (yq_of (y_ldb 1 Try.isAgg3 (fe_t rfl) rfl rfl)) ?_
  refine tb_float (i := 9) rfl (by kernel_rfl) rfl (wants_none rfl) (yq_of (y_mul (fe_t rfl) (fe_t rfl) (by omega))) ?_
  refine tb_float (i := 10) rfl (by kernel_rfl) rfl (wants_none rfl) (yq_of (y_assign (fe_t rfl))) ?_
  refine tb_float (i := 11) rfl (by kernel_rfl) rfl (wants_none rfl) (yq_of (y_assign (fe_t rfl))) ?_
  refine tb_done (by kernel_rfl) ?_
  refine tx_then ?_
  refine tr_seq ?_
  refine tr_block ?_
  refine tr_seq ?_
  refine tr_region ?_
  refine tl_step rfl (oj_val (y_move (fe_t rfl)) ?_)
  refine tl_step rfl (oj_val (y_move (fe_t rfl)) ?_)
  refine tl_step rfl (oj_val (y_lss (fe_t rfl) (fe_t rfl)) ?_)
  refine tl_step rfl (oj_val (y_assign (fe_t rfl)) ?_)
  refine tl_nil ?_
  refine tx_then ?_
  refine tr_condp (fe_t rfl) (fun hq1 => ?_) (fun hq2 => ?_)
  · try (exfalso; omega)
    all_goals
      refine tr_seq ?_
      refine tr_region ?_
      refine tl_step rfl (oj_val (y_assign fe_c) ?_)
      refine tl_step rfl (oj_val (y_assign fe_c) ?_)
      refine tl_nil ?_
      refine tx_then ?_
      refine tr_ret ?_
      refine tx_in_ret ?_
      refine tx_then_ret ?_
      refine tx_ret (res2 Try.results15 (rok_t rfl) (rok_t rfl)) (fun w' hS => ?_)
      exact ⟨by first | rfl | (simp [cmpv, *]; done) | (simp only [cmpv]; repeat (first | rw [if_pos (by omega)] | rw [if_neg (by omega)])), hS.pick [] _ rfl (by decide)⟩
  · try (exfalso; omega)
    all_goals
      refine tr_seq ?_
      refine tr_region ?_
      refine tl_step rfl (oj_val (y_move (fe_t rfl)) ?_)
      refine tl_step rfl (oj_val (y_move (fe_t rfl)) ?_)
      refine tl_step rfl (oj_val (y_gtr (fe_t rfl) (fe_t rfl)) ?_)
      refine tl_step rfl (oj_val (y_assign (fe_t rfl)) ?_)
      refine tl_nil ?_
      refine tx_then ?_
      refine tr_condp (fe_t rfl) (fun hq3 => ?_) (fun hq4 => ?_)
      · try (exfalso; omega)
        all_goals
          refine tr_seq ?_
          refine tr_region ?_
          refine tl_step rfl (oj_val (y_assign fe_c) ?_)
          refine tl_step rfl (oj_val (y_assign fe_c) ?_)
          refine tl_nil ?_
          refine tx_then ?_
          refine tr_ret ?_
          refine tx_in_ret ?_
          refine tx_then_ret ?_
          refine tx_ret (res2 Try.results15 (rok_t rfl) (rok_t rfl)) (fun w' hS => ?_)
          exact ⟨by first | rfl | (simp [cmpv, *]; done) | (simp only [cmpv]; repeat (first | rw [if_pos (by omega)] | rw [if_neg (by omega)])), hS.pick [] _ rfl (by decide)⟩
      · try (exfalso; omega)
        all_goals
          refine tr_skip ?_
          refine tx_in ?_
          refine tx_then ?_
          refine tr_seq ?_
          refine tr_region ?_
          refine tl_step rfl (oj_val (y_assign fe_c) ?_)
          refine tl_step rfl (oj_val (y_assign fe_c) ?_)
          refine tl_nil ?_
          refine tx_then ?_
          refine tr_ret ?_
          refine tx_ret (res2 Try.results15 (rok_t rfl) (rok_t rfl)) (fun w' hS => ?_)
          exact ⟨by first | rfl | (simp [cmpv, *]; done) | (simp only [cmpv]; repeat (first | rw [if_pos (by omega)] | rw [if_neg (by omega)])), hS.pick [] _ rfl (by decide)⟩

set_option maxRecDepth 100000 in
set_option maxHeartbeats 1000000 in
theorem addE_ok {n d n' d' : Int} (ha : bright n d = true) (hb : bright n' d' = true) (w : World) :
    Calls Try.prog 16 #[.agg #[(.int .i64 n), (.int .i64 d)], .agg #[(.int .i64 n'), (.int .i64 d')]] w fun e w' => e = .returned (.tuple #[.agg #[(.int .i64 ((lo (n * d' + n' * d) (d * d')).1)), (.int .i64 ((lo (n * d' + n' * d) (d * d')).2.1))], (.int .i64 ((lo (n * d' + n' * d) (d * d')).2.2))]) ∧ St w w' [] := by
  have hbd := bd4 ha hb
  obtain ⟨⟨m1, m2⟩, ⟨m3, m4⟩, ⟨m5, m6⟩, m7, m8⟩ := hbd
  refine calls_tr Try.func16 Try.ntmps16 rfl rfl (St.refl _) ?_
  refine tr_seq ?_
  refine tr_region ?_
  refine tl_step rfl (oj_box (fe_t rfl) (fun b1 => ?_))
  refine tl_step rfl (oj_box (fe_t rfl) (fun b2 => ?_))
  refine tl_step rfl (oj_alloc Try.zeroValue23 (fun b3 => ?_))
  refine tl_step rfl (oj_val (y_assign fe_c) ?_)
  refine tl_nil ?_
  refine tx_then ?_
  refine tr_seq ?_
  refine tr_seq ?_
  refine tr_region ?_
  refine tl_step rfl (oj_val (y_ldbA 2 Try.isAgg23 Try.sizeOf23 (fe_t rfl) rfl rfl rfl) ?_)
  refine tl_step rfl (oj_callv Try.call18 fe_f (fel_cons (fe_t rfl) fel_nil) (fun w' hS => rightE ha w') ?_)
  refine tl_step rfl (oj_val (y_not (fe_t rfl)) ?_)
  refine tl_step rfl (oj_val (y_move (fe_t rfl)) ?_)
  refine tl_want rfl rfl rfl (oj_val (y_ldbA 1 Try.isAgg23 Try.sizeOf23 (fe_t rfl) rfl rfl rfl) ?_)
  refine tl_want rfl rfl rfl (oj_callv Try.call18 fe_f (fel_cons (fe_t rfl) fel_nil) (fun w' hS => rightE hb w') ?_)
  refine tl_want rfl rfl rfl (oj_val (y_not (fe_t rfl)) ?_)
  refine tl_step rfl (oj_val (y_pickf (fe_t rfl) (fe_t rfl)) ?_)
  refine tl_nil ?_
  refine tx_then ?_
  refine tr_condf (fe_t rfl) ?_
  refine tr_skip ?_
  refine tx_then ?_
  refine tr_seq ?_
  refine tr_region ?_
  refine tl_step rfl (oj_val (y_fieldAddr (td := 3) Try.underlying23 rfl rfl Try.sizeOf3 (o' := 0) rfl (fe_t rfl)) ?_)
  refine tl_step rfl (oj_val (y_ldb 2 Try.isAgg3 (fe_t rfl) rfl rfl) ?_)
  refine tl_step rfl (oj_val (y_fieldAddr (td := 3) Try.underlying23 rfl rfl Try.sizeOf3 (o' := 1) rfl (fe_t rfl)) ?_)
  refine tl_step rfl (oj_val (y_ldb 1 Try.isAgg3 (fe_t rfl) rfl rfl) ?_)
  refine tl_step rfl (oj_val (y_mul (fe_t rfl) (fe_t rfl) (by omega)) ?_)
  refine tl_step rfl (oj_val (y_fieldAddr (td := 3) Try.underlying23 rfl rfl Try.sizeOf3 (o' := 0) rfl (fe_t rfl)) ?_)
  refine tl_step rfl (oj_val (y_ldb 1 Try.isAgg3 (fe_t rfl) rfl rfl) ?_)
  refine tl_step rfl (oj_val (y_fieldAddr (td := 3) Try.underlying23 rfl rfl Try.sizeOf3 (o' := 1) rfl (fe_t rfl)) ?_)
  refine tl_step rfl (oj_val (y_ldb 2 Try.isAgg3 (fe_t rfl) rfl rfl) ?_)
  refine tl_step rfl (oj_val (y_mul (fe_t rfl) (fe_t rfl) (by omega)) ?_)
  refine tl_step rfl (oj_val (y_add (fe_t rfl) (fe_t rfl) (by omega)) ?_)
  refine tl_step rfl (oj_val (y_fieldAddr (td := 3) Try.underlying23 rfl rfl Try.sizeOf3 (o' := 1) rfl (fe_t rfl)) ?_)
  refine tl_step rfl (oj_val (y_ldb 2 Try.isAgg3 (fe_t rfl) rfl rfl) ?_)
  refine tl_step rfl (oj_val (y_fieldAddr (td := 3) Try.underlying23 rfl rfl Try.sizeOf3 (o' := 1) rfl (fe_t rfl)) ?_)
  refine tl_step rfl (oj_val (y_ldb 1 Try.isAgg3 (fe_t rfl) rfl rfl) ?_)
  refine tl_step rfl (oj_val (y_mul (fe_t rfl) (fe_t rfl) (by omega)) ?_)
  refine tl_step rfl (oj_callv Try.call104 fe_f (fel_cons (fe_t rfl) (fel_cons (fe_t rfl) fel_nil)) (fun w' hS => lowestE _ _ (by omega) (by omega) (by omega) (by omega) w') ?_)
  refine tl_step rfl (oj_val (y_extract (fe_t rfl) rfl) ?_)
  refine tl_step rfl (oj_val (y_extract (fe_t rfl) rfl) ?_)
  refine tl_step rfl (oj_storeW 0 Try.sizeOf23 (fe_t rfl) (fe_t rfl) rfl rfl rfl rfl rfl (?_))
  refine tl_step rfl (oj_val (y_assign (fe_t rfl)) ?_)
  refine tl_nil ?_
  refine tx_then ?_
  refine tr_ret ?_
  refine tx_ret (res2 Try.results16 (rok_b 0 Try.isAgg23 Try.sizeOf23 rfl rfl rfl) (rok_t rfl)) (fun w' hS => ?_)
  exact ⟨by first | rfl | (simp [cmpv, *]; done) | (simp only [cmpv]; repeat (first | rw [if_pos (by omega)] | rw [if_neg (by omega)])), hS.pick [] _ rfl (by decide)⟩

set_option maxRecDepth 100000 in
set_option maxHeartbeats 1000000 in
theorem mulE_ok {n d n' d' : Int} (ha : bright n d = true) (hb : bright n' d' = true) (w : World) :
    Calls Try.prog 17 #[.agg #[(.int .i64 n), (.int .i64 d)], .agg #[(.int .i64 n'), (.int .i64 d')]] w fun e w' => e = .returned (.tuple #[.agg #[(.int .i64 ((lo (n * n') (d * d')).1)), (.int .i64 ((lo (n * n') (d * d')).2.1))], (.int .i64 ((lo (n * n') (d * d')).2.2))]) ∧ St w w' [] := by
  have hbd := bd4 ha hb
  obtain ⟨⟨m1, m2⟩, ⟨m3, m4⟩, ⟨m5, m6⟩, m7, m8⟩ := hbd
  refine calls_tr Try.func17 Try.ntmps17 rfl rfl (St.refl _) ?_
  refine tr_seq ?_
  refine tr_region ?_
  refine tl_step rfl (oj_box (fe_t rfl) (fun b1 => ?_))
  refine tl_step rfl (oj_box (fe_t rfl) (fun b2 => ?_))
  refine tl_step rfl (oj_alloc Try.zeroValue23 (fun b3 => ?_))
  refine tl_step rfl (oj_val (y_assign fe_c) ?_)
  refine tl_nil ?_
  refine tx_then ?_
  refine tr_seq ?_
  refine tr_seq ?_
  refine tr_region ?_
  refine tl_step rfl (oj_val (y_ldbA 2 Try.isAgg23 Try.sizeOf23 (fe_t rfl) rfl rfl rfl) ?_)
  refine tl_step rfl (oj_callv Try.call18 fe_f (fel_cons (fe_t rfl) fel_nil) (fun w' hS => rightE ha w') ?_)
  refine tl_step rfl (oj_val (y_not (fe_t rfl)) ?_)
  refine tl_step rfl (oj_val (y_move (fe_t rfl)) ?_)
  refine tl_want rfl rfl rfl (oj_val (y_ldbA 1 Try.isAgg23 Try.sizeOf23 (fe_t rfl) rfl rfl rfl) ?_)
  refine tl_want rfl rfl rfl (oj_callv Try.call18 fe_f (fel_cons (fe_t rfl) fel_nil) (fun w' hS => rightE hb w') ?_)
  refine tl_want rfl rfl rfl (oj_val (y_not (fe_t rfl)) ?_)
  refine tl_step rfl (oj_val (y_pickf (fe_t rfl) (fe_t rfl)) ?_)
  refine tl_nil ?_
  refine tx_then ?_
  refine tr_condf (fe_t rfl) ?_
  refine tr_skip ?_
  refine tx_then ?_
  refine tr_seq ?_
  refine tr_region ?_
  refine tl_step rfl (oj_val (y_fieldAddr (td := 3) Try.underlying23 rfl rfl Try.sizeOf3 (o' := 0) rfl (fe_t rfl)) ?_)
  refine tl_step rfl (oj_val (y_ldb 2 Try.isAgg3 (fe_t rfl) rfl rfl) ?_)
  refine tl_step rfl (oj_val (y_fieldAddr (td := 3) Try.underlying23 rfl rfl Try.sizeOf3 (o' := 0) rfl (fe_t rfl)) ?_)
  refine tl_step rfl (oj_val (y_ldb 1 Try.isAgg3 (fe_t rfl) rfl rfl) ?_)
  refine tl_step rfl (oj_val (y_mul (fe_t rfl) (fe_t rfl) (by omega)) ?_)
  refine tl_step rfl (oj_val (y_fieldAddr (td := 3) Try.underlying23 rfl rfl Try.sizeOf3 (o' := 1) rfl (fe_t rfl)) ?_)
  refine tl_step rfl (oj_val (y_ldb 2 Try.isAgg3 (fe_t rfl) rfl rfl) ?_)
  refine tl_step rfl (oj_val (y_fieldAddr (td := 3) Try.underlying23 rfl rfl Try.sizeOf3 (o' := 1) rfl (fe_t rfl)) ?_)
  refine tl_step rfl (oj_val (y_ldb 1 Try.isAgg3 (fe_t rfl) rfl rfl) ?_)
  refine tl_step rfl (oj_val (y_mul (fe_t rfl) (fe_t rfl) (by omega)) ?_)
  refine tl_step rfl (oj_callv Try.call104 fe_f (fel_cons (fe_t rfl) (fel_cons (fe_t rfl) fel_nil)) (fun w' hS => lowestE _ _ (by omega) (by omega) (by omega) (by omega) w') ?_)
  refine tl_step rfl (oj_val (y_extract (fe_t rfl) rfl) ?_)
  refine tl_step rfl (oj_val (y_extract (fe_t rfl) rfl) ?_)
  refine tl_step rfl (oj_storeW 0 Try.sizeOf23 (fe_t rfl) (fe_t rfl) rfl rfl rfl rfl rfl (?_))
  refine tl_step rfl (oj_val (y_assign (fe_t rfl)) ?_)
  refine tl_nil ?_
  refine tx_then ?_
  refine tr_ret ?_
  refine tx_ret (res2 Try.results17 (rok_b 0 Try.isAgg23 Try.sizeOf23 rfl rfl rfl) (rok_t rfl)) (fun w' hS => ?_)
  exact ⟨by first | rfl | (simp [cmpv, *]; done) | (simp only [cmpv]; repeat (first | rw [if_pos (by omega)] | rw [if_neg (by omega)])), hS.pick [] _ rfl (by decide)⟩

end Go.Proofs.Ytcpdelkamckmfaa.Frac
