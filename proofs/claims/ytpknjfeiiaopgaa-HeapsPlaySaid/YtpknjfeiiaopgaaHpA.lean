/- Walks: less, swap. -/
import Derived.Test.YtpknjfeiiaopgaaHpV
namespace Go.Proofs.Ytpknjfeiiaopgaa.Heap
open Go.RowKit Go.Proofs.Ytpknjfeiiaopgaa.E Go.Proofs.Ytpknjfeiiaopgaa.Big

set_option maxRecDepth 100000 in
set_option maxHeartbeats 400000 in
theorem nanE (x : Int) (w : World) :
    Calls Try.prog 190 #[.int .u64 x] w fun e w' => e = .returned (.bool false) ∧ St w w' [] := by
  refine calls_tr Try.func190 Try.ntmps190 rfl rfl (St.refl _) ?_
  refine tr_seq ?_
  refine tr_region ?_
  refine tl_step rfl (oj_val (y_assign fe_c) ?_)
  refine tl_nil ?_
  refine tx_then ?_
  refine tr_seq ?_
  refine tr_region ?_
  refine tl_step rfl (oj_val (y_move (fe_t rfl)) ?_)
  refine tl_step rfl (oj_val (y_move (fe_t rfl)) ?_)
  refine tl_step rfl (oj_val (y_neq (fe_t rfl) (fe_t rfl)) ?_)
  refine tl_step rfl (oj_val (y_assign (fe_t rfl)) ?_)
  refine tl_nil ?_
  refine tx_then ?_
  refine tr_ret ?_
  refine tx_ret (res1 Try.results190 (rok_t rfl)) (fun w' hS => ?_)
  exact ⟨by simp, hS.pick [] _ rfl (by decide)⟩

set_option maxRecDepth 100000 in
set_option maxHeartbeats 400000 in
theorem compareE (x y : Int) (w : World) :
    Calls Try.prog 182 #[.int .u64 x, .int .u64 y] w fun e w' => e = .returned ((.int .i64 (cmp x y))) ∧ St w w' [] := by
  refine calls_tr Try.func182 Try.ntmps182 rfl rfl (St.refl _) ?_
  refine tr_seq ?_
  refine tr_region ?_
  refine tl_step rfl (oj_val (y_assign fe_c) ?_)
  refine tl_nil ?_
  refine tx_then ?_
  refine tr_seq ?_
  refine tr_region ?_
  refine tl_step rfl (oj_val (y_move (fe_t rfl)) ?_)
  refine tl_step rfl (oj_callv Try.call190 fe_f (fel_cons (fe_t rfl) fel_nil) (fun w' hS => nanE _ w') ?_)
  refine tl_step rfl (oj_val (y_assign (fe_t rfl)) ?_)
  refine tl_nil ?_
  refine tx_then ?_
  refine tr_seq ?_
  refine tr_region ?_
  refine tl_step rfl (oj_val (y_move (fe_t rfl)) ?_)
  refine tl_step rfl (oj_callv Try.call190 fe_f (fel_cons (fe_t rfl) fel_nil) (fun w' hS => nanE _ w') ?_)
  refine tl_step rfl (oj_val (y_assign (fe_t rfl)) ?_)
  refine tl_nil ?_
  refine tx_then ?_
  refine tr_seq ?_
  refine tr_seq ?_
  refine tr_region ?_
  refine tl_step rfl (oj_val (y_move (fe_t rfl)) ?_)
  refine tl_nil ?_
  refine tx_then ?_
  refine tr_condf (fe_t rfl) ?_
  refine tr_skip ?_
  refine tx_then ?_
  refine tr_seq ?_
  refine tr_seq ?_
  refine tr_region ?_
  refine tl_step rfl (oj_val (y_move (fe_t rfl)) ?_)
  refine tl_nil ?_
  refine tx_then ?_
  refine tr_condf (fe_t rfl) ?_
  refine tr_skip ?_
  refine tx_then ?_
  refine tr_seq ?_
  refine tr_seq ?_
  refine tr_region ?_
  refine tl_step rfl (oj_val (y_move (fe_t rfl)) ?_)
  refine tl_step rfl (oj_val (y_move (fe_t rfl)) ?_)
  refine tl_step rfl (oj_val (y_lss (fe_t rfl) (fe_t rfl)) ?_)
  refine tl_nil ?_
  refine tx_then ?_
  refine tr_condp (fe_t rfl) (fun hq1 => ?_) (fun hq2 => ?_)
  · refine tr_seq ?_
    refine tr_region ?_
    refine tl_step rfl (oj_val (y_assign fe_c) ?_)
    refine tl_nil ?_
    refine tx_then ?_
    refine tr_ret ?_
    refine tx_then_ret ?_
    refine tx_ret (res1 Try.results182 (rok_t rfl)) (fun w' hS => ?_)
    exact ⟨by unfold cmp; repeat (first | rw [if_pos (by omega)] | rw [if_neg (by omega)]), hS.pick [] _ rfl (by decide)⟩
  · refine tr_skip ?_
    refine tx_then ?_
    refine tr_seq ?_
    refine tr_seq ?_
    refine tr_region ?_
    refine tl_step rfl (oj_val (y_move (fe_t rfl)) ?_)
    refine tl_step rfl (oj_val (y_move (fe_t rfl)) ?_)
    refine tl_step rfl (oj_val (y_gtr (fe_t rfl) (fe_t rfl)) ?_)
    refine tl_nil ?_
    refine tx_then ?_
    refine tr_condp (fe_t rfl) (fun hq3 => ?_) (fun hq4 => ?_)
    · refine tr_seq ?_
      refine tr_region ?_
      refine tl_step rfl (oj_val (y_assign fe_c) ?_)
      refine tl_nil ?_
      refine tx_then ?_
      refine tr_ret ?_
      refine tx_then_ret ?_
      refine tx_ret (res1 Try.results182 (rok_t rfl)) (fun w' hS => ?_)
      exact ⟨by unfold cmp; repeat (first | rw [if_pos (by omega)] | rw [if_neg (by omega)]), hS.pick [] _ rfl (by decide)⟩
    · refine tr_skip ?_
      refine tx_then ?_
      refine tr_seq ?_
      refine tr_region ?_
      refine tl_step rfl (oj_val (y_assign fe_c) ?_)
      refine tl_nil ?_
      refine tx_then ?_
      refine tr_ret ?_
      refine tx_ret (res1 Try.results182 (rok_t rfl)) (fun w' hS => ?_)
      exact ⟨by unfold cmp; repeat (first | rw [if_pos (by omega)] | rw [if_neg (by omega)]), hS.pick [] _ rfl (by decide)⟩

set_option maxRecDepth 100000 in
set_option maxHeartbeats 800000 in
theorem orE (A : Option Addr) (c : Nat) (a b : Int) (w : World) (hr : Rd w A [(.int .i64 a), (.int .i64 b)]) :
    Calls Try.prog 181 #[.slice A 2 c] w fun e w' => e = .returned ((.int .i64 (if a = 0 then b else a))) ∧ St w w' [] := by
  refine calls_tr Try.func181 Try.ntmps181 rfl rfl (St.refl _) ?_
  refine tr_seq ?_
  refine tr_region ?_
  refine tl_step rfl (oj_val (y_assign fe_c) ?_)
  refine tl_nil ?_
  refine tx_then ?_
  refine tr_seq ?_
  refine tr_region ?_
  refine tl_step rfl (oj_val (y_assign fe_c) ?_)
  refine tl_nil ?_
  refine tx_then ?_
  refine tr_seq ?_
  refine tr_seq ?_
  refine tr_region ?_
  refine tl_step rfl (oj_val (y_move (fe_t rfl)) ?_)
  refine tl_step rfl (oj_val (y_len Try.underlying27 (fe_t rfl)) ?_)
  refine tl_step rfl (oj_val (y_move fe_c) ?_)
  refine tl_nil ?_
  refine tx_then ?_
  refine tr_block ?_
  refine tr_loop1 [2, 5, 8, 9, 10, 11, 12, 13, 14, 15, 16] (fun (k : Nat) => [(8, .int .i64 (k : Int))]) 0 (fun (k : Nat) => []) (fun (k : Nat) => k ≤ 2 ∧ (0 < k → a = 0) ∧ (1 < k → b = 0)) (fun (k : Nat) => 2 - k) (0) (cov_cons (by first | rfl | exact v_int (by omega) | exact v_bool (by simp [*])) (cov_nil)) (fun w h => h) ?_ ?_
  · try dsimp only
    exact ⟨by omega, fun h => by omega, fun h => by omega⟩
  intro k hp
  have hi := hp
  obtain ⟨hk, hp0⟩ := hp
  refine tr_seq ?_
  refine tr_region ?_
  refine tl_step rfl (oj_val (y_lss (fe_t rfl) (fe_t rfl)) ?_)
  refine tl_nil ?_
  refine tx_then ?_
  refine tr_seq ?_
  refine tr_condp (fe_t rfl) (fun hq1 => ?_) (fun hq2 => ?_)
  · refine tr_skip ?_
    refine tx_then ?_
    refine tr_seq ?_
    refine tr_block ?_
    refine tr_seq ?_
    refine tr_region ?_
    refine tl_step rfl (oj_val (y_index Try.underlying27 Try.sizeOf3 (fe_t rfl) (fe_t rfl) (rdl_out hr) (rfl) (by decide) (by omega) (Nat.mul_one _)) ?_)
    refine tl_step rfl (oj_val (y_ld (v := (.int .i64 (if k = 0 then a else b))) Try.isAgg3 (fe_t rfl) (rdl_out hr) (by have : k = 0 ∨ k = 1 := (by omega); rcases this with rfl | rfl <;> rfl)) ?_)
    refine tl_step rfl (oj_val (y_assign (fe_t rfl)) ?_)
    refine tl_nil ?_
    refine tx_then ?_
    refine tr_seq ?_
    refine tr_region ?_
    refine tl_step rfl (oj_val (y_move (fe_t rfl)) ?_)
    refine tl_step rfl (oj_val (y_move (fe_t rfl)) ?_)
    refine tl_step rfl (oj_val (y_neq (fe_t rfl) (fe_t rfl)) ?_)
    refine tl_nil ?_
    refine tx_then ?_
    refine tr_condp (fe_t rfl) (fun hq3 => ?_) (fun hq4 => ?_)
    · have hz := hq3
      refine tr_seq ?_
      refine tr_region ?_
      refine tl_step rfl (oj_val (y_move (fe_t rfl)) ?_)
      refine tl_step rfl (oj_val (y_assign (fe_t rfl)) ?_)
      refine tl_nil ?_
      refine tx_then ?_
      refine tr_ret ?_
      refine tx_in_ret ?_
      refine tx_then_ret ?_
      refine tx_then_ret ?_
      refine tx_in_ret ?_
      refine tx_then_ret ?_
      refine tx_ret (res1 Try.results181 (rok_t rfl)) (fun w' hS => ?_)
      exact ⟨by first | (rw [show (if k = 0 then a else b) = if a = 0 then b else a by by_cases hk0 : k = 0 <;> simp only [hk0, if_true, if_false] at hz ⊢ <;> split <;> omega]; done) | (rw [if_pos (hi.2.1 (by omega)), hi.2.2 (by omega)]), hS.pick [] _ rfl (by decide)⟩
    · have hz := hq4
      refine tr_skip ?_
      refine tx_in ?_
      refine tx_then ?_
      refine tr_region ?_
      refine tl_step rfl (oj_val (y_inc (fe_t rfl) fe_c (by omega)) ?_)
      refine tl_step rfl (oj_val (y_move (fe_t rfl)) ?_)
      refine tl_nil ?_
      apply tx_back1 (k + 1)
      · exact (cov_cons (by first | rfl | exact v_int (by omega) | exact v_bool (by simp [*])) (cov_nil))
      · repeat (first | exact over_nil | refine over_put rfl ?_ | refine over_drop rfl ?_)
      · exact fun w h => h.pick [] _ rfl (by decide)
      · refine ⟨⟨by omega, fun _ => ?_, fun _ => ?_⟩, by omega⟩
        · by_cases hk0 : k = 0
          · simp only [hk0, if_true] at hz; omega
          · exact hi.2.1 (by omega)
        · by_cases hk0 : k = 0
          · omega
          · simp only [hk0, if_false] at hz; omega
  · refine tr_exit ?_
    refine tx_then_exit ?_
    refine tx_then_exit ?_
    refine tx_in_exit ?_
    refine tx_then ?_
    refine tr_seq ?_
    refine tr_region ?_
    refine tl_step rfl (oj_val (y_move (fe_t rfl)) ?_)
    refine tl_step rfl (oj_val (y_assign (fe_t rfl)) ?_)
    refine tl_nil ?_
    refine tx_then ?_
    refine tr_ret ?_
    refine tx_ret (res1 Try.results181 (rok_t rfl)) (fun w' hS => ?_)
    exact ⟨by first | (rw [show (if k = 0 then a else b) = if a = 0 then b else a by by_cases hk0 : k = 0 <;> simp only [hk0, if_true, if_false] at hz ⊢ <;> split <;> omega]; done) | (rw [if_pos (hi.2.1 (by omega)), hi.2.2 (by omega)]), hS.pick [] _ rfl (by decide)⟩

set_option maxRecDepth 100000 in
set_option maxHeartbeats 1000000 in
theorem wcmpE (a b : I3) (w : World) :
    Calls Try.prog 165 #[.agg #[.int .u64 a.2.1, .int .u64 a.2.2], .agg #[.int .u64 b.2.1, .int .u64 b.2.2]] w fun e w' => e = .returned (.int .i64 (kc a b)) ∧ St w w' [] := by
  refine calls_tr Try.func165 Try.ntmps165 rfl rfl (St.refl _) ?_
  refine tr_seq ?_
  refine tr_region ?_
  refine tl_step rfl (oj_box (fe_t rfl) (fun b1 => ?_))
  refine tl_step rfl (oj_box (fe_t rfl) (fun b2 => ?_))
  refine tl_step rfl (oj_val (y_assign fe_c) ?_)
  refine tl_nil ?_
  refine tx_then ?_
  refine tr_seq ?_
  refine tb_draw 13 (sel _ [0, 1]) (fun w h => h.sel _ rfl (by decide)) rfl ?_
  refine tb_float (i := 0) rfl (by kernel_rfl) rfl (wants_none rfl) (yq_of (y_fieldAddr (td := 117) Try.underlying119 rfl rfl Try.sizeOf117 (o' := 0) rfl (fe_t rfl))) ?_
  refine tb_float (i := 1) rfl (by kernel_rfl) rfl (wants_none rfl) (yq_of (y_ldb 1 Try.isAgg117 (fe_t rfl) rfl rfl)) ?_
  refine tb_float (i := 2) rfl (by kernel_rfl) rfl (wants_none rfl) (yq_of (y_fieldAddr (td := 117) Try.underlying119 rfl rfl Try.sizeOf117 (o' := 0) rfl (fe_t rfl))) ?_
  refine tb_float (i := 3) rfl (by kernel_rfl) rfl (wants_none rfl) (yq_of (y_ldb 0 Try.isAgg117 (fe_t rfl) rfl rfl)) ?_
  refine tb_float (i := 4) rfl (by kernel_rfl) rfl (wants_none rfl) (yq_call Try.call182 fe_f (fel_cons (fe_t rfl) (fel_cons (fe_t rfl) fel_nil)) (fun w' hS => compareE _ _ w')) ?_
  refine tb_float (i := 5) rfl (by kernel_rfl) rfl (wants_none rfl) (yq_of (y_fieldAddr (td := 117) Try.underlying119 rfl rfl Try.sizeOf117 (o' := 1) rfl (fe_t rfl))) ?_
  refine tb_float (i := 6) rfl (by kernel_rfl) rfl (wants_none rfl) (yq_of (y_ldb 1 Try.isAgg117 (fe_t rfl) rfl rfl)) ?_
  refine tb_float (i := 7) rfl (by kernel_rfl) rfl (wants_none rfl) (yq_of (y_fieldAddr (td := 117) Try.underlying119 rfl rfl Try.sizeOf117 (o' := 1) rfl (fe_t rfl))) ?_
  refine tb_float (i := 8) rfl (by kernel_rfl) rfl (wants_none rfl) (yq_of (y_ldb 0 Try.isAgg117 (fe_t rfl) rfl rfl)) ?_
  refine tb_float (i := 9) rfl (by kernel_rfl) rfl (wants_none rfl) (yq_call Try.call182 fe_f (fel_cons (fe_t rfl) (fel_cons (fe_t rfl) fel_nil)) (fun w' hS => compareE _ _ w')) ?_
  refine tb_one2 (i := 10) rfl (by kernel_rfl) (by kernel_rfl) (wants_none rfl) (oj_lit2 (k := .i64) (a := cmp a.2.1 b.2.1) (b := cmp a.2.2 b.2.2) Try.underlying27 Try.sizeOf3 Try.zeroValue3 (fe_t rfl) (fe_t rfl) (fun g => ⟨fun w h => h.pick [1, 2] _ rfl (by decide), ?_⟩))
  refine tb_one2 (i := 11) rfl (by kernel_rfl) (by kernel_rfl) (wants_none rfl) (oj_callv Try.call181 fe_f (fel_cons (fe_t rfl) fel_nil) (fun w' hS => orE _ _ _ _ w' (rdl_vec 0 rfl _ hS)) (⟨fun w h => h.pick [1, 2] _ rfl (by decide), ?_⟩))
  refine tb_float (i := 12) rfl (by kernel_rfl) rfl (wants_none rfl) (yq_of (y_assign (fe_t rfl))) ?_
  refine tb_done (by kernel_rfl) ?_
  refine tx_then ?_
  refine tr_ret ?_
  refine tx_ret (res1 Try.results165 (rok_t rfl)) (fun w' hS => ?_)
  exact ⟨rfl, hS.pick [] _ rfl (by decide)⟩

set_option maxRecDepth 100000 in
set_option maxHeartbeats 4000000 in
theorem lessE {w0 w : World} {T : List Res} {hb mb n c : Nat} {A : Option Addr} {l : List I3} (hn : l.length = n) (hS : St w0 w (blk hb [.slice A n c, .map (some mb)] :: vec 125 3 (.slice A n c) n (l.flatMap cI3) :: T)) {i j : Nat} (hi : i < n) (hj : j < n) :
    Calls Try.prog 123 #[.pointer (some ⟨hb, 0, none⟩), (.int .i64 ((i : Int))), (.int .i64 ((j : Int)))] w fun e w' => ∃ _q : Unit, True ∧ e = .returned (.bool (decide (lt3 (gl l i) (gl l j)))) ∧ St w0 w' (blk hb [.slice A n c, .map (some mb)] :: vec 125 3 (.slice A n c) n (l.flatMap cI3) :: T) := by
  refine calls_tr Try.func123 Try.ntmps123 rfl rfl hS ?_
  refine tr_seq ?_
  refine tr_region ?_
  refine tl_step rfl (oj_val (y_assign fe_c) ?_)
  refine tl_nil ?_
  refine tx_then ?_
  refine tr_seq ?_
  refine tr_seq ?_
  refine tb_draw 18 (sel _ [0, 1]) (fun w h => h.sel _ rfl (by decide)) rfl ?_
  refine tb_float (i := 0) rfl (by kernel_rfl) rfl (wants_none rfl) (yq_of (y_move (fe_t rfl))) ?_
  refine tb_float (i := 1) rfl (by kernel_rfl) rfl (wants_none rfl) (yq_of (y_nilCheck (fe_t rfl))) ?_
  refine tb_float (i := 2) rfl (by kernel_rfl) rfl (wants_none rfl) (yq_of (y_fieldAddr (td := 114) Try.underlying116 rfl rfl Try.sizeOf114 (o' := 0) rfl (fe_t rfl))) ?_
  refine tb_float (i := 3) rfl (by kernel_rfl) rfl (wants_none rfl) (yq_of (y_ldb 0 Try.isAgg114 (fe_t rfl) rfl rfl)) ?_
  refine tb_float (i := 4) rfl (by kernel_rfl) rfl (wants_none rfl) (yq_of (y_move (fe_t rfl))) ?_
  refine tb_float (i := 5) rfl (by kernel_rfl) rfl (wants_none rfl) (yq_of (y_index Try.underlying114 Try.sizeOf125 (fe_t rfl) (fe_t rfl) (rdl_vec 1 rfl) (by rw [flat_len hcI, hn]) (by decide) (by omega) rfl)) ?_
  refine tb_float (i := 6) rfl (by kernel_rfl) rfl (wants_none rfl) (yq_of (y_fieldAddrE (td := 119) Try.underlying125 rfl rfl Try.sizeOf119 rfl (fe_t rfl) (rdl_vec 1 rfl) (by rw [flat_len hcI, hn]; omega))) ?_
  refine tb_float (i := 7) rfl (by kernel_rfl) rfl (wants_none rfl) (yq_of (y_ldA (cs := [.int .u64 (gl l i).2.1, .int .u64 (gl l i).2.2]) Try.isAgg119 Try.sizeOf119 (fe_t rfl) (rdl_vec 1 rfl) rfl (by decide) (key_at (by omega)))) ?_
  refine tb_float (i := 8) rfl (by kernel_rfl) rfl (wants_none rfl) (yq_of (y_move (fe_t rfl))) ?_
  refine tb_float (i := 9) rfl (by kernel_rfl) rfl (wants_none rfl) (yq_of (y_nilCheck (fe_t rfl))) ?_
  refine tb_float (i := 10) rfl (by kernel_rfl) rfl (wants_none rfl) (yq_of (y_fieldAddr (td := 114) Try.underlying116 rfl rfl Try.sizeOf114 (o' := 0) rfl (fe_t rfl))) ?_
  refine tb_float (i := 11) rfl (by kernel_rfl) rfl (wants_none rfl) (yq_of (y_ldb 0 Try.isAgg114 (fe_t rfl) rfl rfl)) ?_
  refine tb_float (i := 12) rfl (by kernel_rfl) rfl (wants_none rfl) (yq_of (y_move (fe_t rfl))) ?_
  refine tb_float (i := 13) rfl (by kernel_rfl) rfl (wants_none rfl) (yq_of (y_index Try.underlying114 Try.sizeOf125 (fe_t rfl) (fe_t rfl) (rdl_vec 1 rfl) (by rw [flat_len hcI, hn]) (by decide) (by omega) rfl)) ?_
  refine tb_float (i := 14) rfl (by kernel_rfl) rfl (wants_none rfl) (yq_of (y_fieldAddrE (td := 119) Try.underlying125 rfl rfl Try.sizeOf119 rfl (fe_t rfl) (rdl_vec 1 rfl) (by rw [flat_len hcI, hn]; omega))) ?_
  refine tb_float (i := 15) rfl (by kernel_rfl) rfl (wants_none rfl) (yq_of (y_ldA (cs := [.int .u64 (gl l j).2.1, .int .u64 (gl l j).2.2]) Try.isAgg119 Try.sizeOf119 (fe_t rfl) (rdl_vec 1 rfl) rfl (by decide) (key_at (by omega)))) ?_
  refine tb_float (i := 16) rfl (by kernel_rfl) rfl (wants_none rfl) (yq_call Try.call165 fe_f (fel_cons (fe_t rfl) (fel_cons (fe_t rfl) fel_nil)) (fun w' hS => wcmpE (gl l i) (gl l j) w')) ?_
  refine tb_float (i := 17) rfl (by kernel_rfl) rfl (wants_none rfl) (yq_of (y_assign (fe_t rfl))) ?_
  refine tb_done (by kernel_rfl) ?_
  refine tx_then ?_
  refine tr_seq ?_
  refine tr_region ?_
  refine tl_step rfl (oj_val (y_move (fe_t rfl)) ?_)
  refine tl_step rfl (oj_val (y_neq (fe_t rfl) fe_c) ?_)
  refine tl_nil ?_
  refine tx_then ?_
  refine tr_condp (fe_t rfl) (fun hq1 => ?_) (fun hq2 => ?_)
  · have hK := kc_lt hq1
    refine tr_seq ?_
    refine tr_region ?_
    refine tl_step rfl (oj_val (y_move (fe_t rfl)) ?_)
    refine tl_step rfl (oj_val (y_lss (fe_t rfl) fe_c) ?_)
    refine tl_step rfl (oj_val (y_assign (fe_t rfl)) ?_)
    refine tl_nil ?_
    refine tx_then ?_
    refine tr_ret ?_
    refine tx_then_ret ?_
    refine tx_ret (res1 Try.results123 (rok_t rfl)) (fun w' hS => ?_)
    have h1 := pickT (l := [_, _]) hS [0, 1] rfl (by decide)
    exact ⟨(), trivial, ret_bool (decide_eq_decide.2 (hK)), h1⟩
  · have hK := kc_eq (Decidable.not_not.1 hq2)
    refine tr_skip ?_
    refine tx_then ?_
    refine tr_seq ?_
    refine tb_draw 18 (sel _ [0, 1]) (fun w h => h.sel _ rfl (by decide)) rfl ?_
    refine tb_float (i := 0) rfl (by kernel_rfl) rfl (wants_none rfl) (yq_of (y_move (fe_t rfl))) ?_
    refine tb_float (i := 1) rfl (by kernel_rfl) rfl (wants_none rfl) (yq_of (y_nilCheck (fe_t rfl))) ?_
    refine tb_float (i := 2) rfl (by kernel_rfl) rfl (wants_none rfl) (yq_of (y_fieldAddr (td := 114) Try.underlying116 rfl rfl Try.sizeOf114 (o' := 0) rfl (fe_t rfl))) ?_
    refine tb_float (i := 3) rfl (by kernel_rfl) rfl (wants_none rfl) (yq_of (y_ldb 0 Try.isAgg114 (fe_t rfl) rfl rfl)) ?_
    refine tb_float (i := 4) rfl (by kernel_rfl) rfl (wants_none rfl) (yq_of (y_move (fe_t rfl))) ?_
    refine tb_float (i := 5) rfl (by kernel_rfl) rfl (wants_none rfl) (yq_of (y_index Try.underlying114 Try.sizeOf125 (fe_t rfl) (fe_t rfl) (rdl_vec 1 rfl) (by rw [flat_len hcI, hn]) (by decide) (by omega) rfl)) ?_
    refine tb_float (i := 6) rfl (by kernel_rfl) rfl (wants_none rfl) (yq_of (y_fieldAddrE (td := 3) Try.underlying125 rfl rfl Try.sizeOf3 rfl (fe_t rfl) (rdl_vec 1 rfl) (by rw [flat_len hcI, hn]; omega))) ?_
    refine tb_float (i := 7) rfl (by kernel_rfl) rfl (wants_none rfl) (yq_of (y_ld Try.isAgg3 (fe_t rfl) (rdl_vec 1 rfl) (flatG (d := d3) (i := 0) hcI (by omega) rfl))) ?_
    refine tb_float (i := 8) rfl (by kernel_rfl) rfl (wants_none rfl) (yq_of (y_move (fe_t rfl))) ?_
    refine tb_float (i := 9) rfl (by kernel_rfl) rfl (wants_none rfl) (yq_of (y_nilCheck (fe_t rfl))) ?_
    refine tb_float (i := 10) rfl (by kernel_rfl) rfl (wants_none rfl) (yq_of (y_fieldAddr (td := 114) Try.underlying116 rfl rfl Try.sizeOf114 (o' := 0) rfl (fe_t rfl))) ?_
    refine tb_float (i := 11) rfl (by kernel_rfl) rfl (wants_none rfl) (yq_of (y_ldb 0 Try.isAgg114 (fe_t rfl) rfl rfl)) ?_
    refine tb_float (i := 12) rfl (by kernel_rfl) rfl (wants_none rfl) (yq_of (y_move (fe_t rfl))) ?_
    refine tb_float (i := 13) rfl (by kernel_rfl) rfl (wants_none rfl) (yq_of (y_index Try.underlying114 Try.sizeOf125 (fe_t rfl) (fe_t rfl) (rdl_vec 1 rfl) (by rw [flat_len hcI, hn]) (by decide) (by omega) rfl)) ?_
    refine tb_float (i := 14) rfl (by kernel_rfl) rfl (wants_none rfl) (yq_of (y_fieldAddrE (td := 3) Try.underlying125 rfl rfl Try.sizeOf3 rfl (fe_t rfl) (rdl_vec 1 rfl) (by rw [flat_len hcI, hn]; omega))) ?_
    refine tb_float (i := 15) rfl (by kernel_rfl) rfl (wants_none rfl) (yq_of (y_ld Try.isAgg3 (fe_t rfl) (rdl_vec 1 rfl) (flatG (d := d3) (i := 0) hcI (by omega) rfl))) ?_
    refine tb_float (i := 16) rfl (by kernel_rfl) rfl (wants_none rfl) (yq_of (y_lss (fe_t rfl) (fe_t rfl))) ?_
    refine tb_float (i := 17) rfl (by kernel_rfl) rfl (wants_none rfl) (yq_of (y_assign (fe_t rfl))) ?_
    refine tb_done (by kernel_rfl) ?_
    refine tx_then ?_
    refine tr_ret ?_
    refine tx_ret (res1 Try.results123 (rok_t rfl)) (fun w' hS => ?_)
    have h1 := pickT (l := [_, _]) hS [0, 1] rfl (by decide)
    exact ⟨(), trivial, ret_bool (decide_eq_decide.2 (hK)), h1⟩

set_option maxRecDepth 100000 in
set_option maxHeartbeats 4000000 in
theorem swapE {w0 w : World} {T : List Res} {hb mb n c : Nat} {A : Option Addr} {l : List I3} {m : Mp} (hn : l.length = n) (hin : Inj l) (hmo : MapOk l m) (hS : St w0 w (blk hb [.slice A n c, .map (some mb)] :: vec 125 3 (.slice A n c) n (l.flatMap cI3) :: mpR mb m [] :: T)) {i j : Nat} (hi : i < n) (hj : j < n) :
    Calls Try.prog 97 #[.pointer (some ⟨hb, 0, none⟩), (.int .i64 ((i : Int))), (.int .i64 ((j : Int)))] w fun e w' => ∃ m' : Mp, MapOk (swp l i j) m' ∧ e = .returned (.tuple #[]) ∧ St w0 w' (blk hb [.slice A n c, .map (some mb)] :: vec 125 3 (.slice A n c) n ((swp l i j).flatMap cI3) :: mpR mb m' [] :: T) := by
  refine calls_tr Try.func97 Try.ntmps97 rfl rfl hS ?_
  refine tr_seq ?_
  refine tb_draw1 25 [_, _, _] [_, _, _] (fun w h => h.pick [0, 1, 2] _ rfl (by decide)) (fun w h => (h.weak (i := 1) rfl).pick [1, 0, 2] _ rfl (by decide)) rfl ?_
  refine tb_float (i := 0) rfl (by kernel_rfl) rfl (wants_none rfl) (yq_of (y_move (fe_t rfl))) ?_
  refine tb_float (i := 1) rfl (by kernel_rfl) rfl (wants_none rfl) (yq_of (y_nilCheck (fe_t rfl))) ?_
  refine tb_float (i := 2) rfl (by kernel_rfl) rfl (wants_none rfl) (yq_of (y_fieldAddr (td := 114) Try.underlying116 rfl rfl Try.sizeOf114 (o' := 0) rfl (fe_t rfl))) ?_
  refine tb_float (i := 3) rfl (by kernel_rfl) rfl (wants_none rfl) (yq_of (y_ldb 1 Try.isAgg114 (fe_t rfl) rfl rfl)) ?_
  refine tb_float (i := 4) rfl (by kernel_rfl) rfl (wants_none rfl) (yq_of (y_move (fe_t rfl))) ?_
  refine tb_float (i := 5) rfl (by kernel_rfl) rfl (wants_none rfl) (yq_of (y_move (fe_t rfl))) ?_
  refine tb_float (i := 6) rfl (by kernel_rfl) rfl (wants_none rfl) (yq_of (y_nilCheck (fe_t rfl))) ?_
  refine tb_float (i := 7) rfl (by kernel_rfl) rfl (wants_none rfl) (yq_of (y_fieldAddr (td := 114) Try.underlying116 rfl rfl Try.sizeOf114 (o' := 0) rfl (fe_t rfl))) ?_
  refine tb_float (i := 8) rfl (by kernel_rfl) rfl (wants_none rfl) (yq_of (y_ldb 1 Try.isAgg114 (fe_t rfl) rfl rfl)) ?_
  refine tb_float (i := 9) rfl (by kernel_rfl) rfl (wants_none rfl) (yq_of (y_move (fe_t rfl))) ?_
  refine tb_float (i := 10) rfl (by kernel_rfl) rfl (wants_none rfl) (yq_of (y_move (fe_t rfl))) ?_
  refine tb_float (i := 11) rfl (by kernel_rfl) rfl (wants_none rfl) (yq_of (y_nilCheck (fe_t rfl))) ?_
  refine tb_float (i := 12) rfl (by kernel_rfl) rfl (wants_none rfl) (yq_of (y_fieldAddr (td := 114) Try.underlying116 rfl rfl Try.sizeOf114 (o' := 0) rfl (fe_t rfl))) ?_
  refine tb_float (i := 13) rfl (by kernel_rfl) rfl (wants_none rfl) (yq_of (y_ldb 1 Try.isAgg114 (fe_t rfl) rfl rfl)) ?_
  refine tb_float (i := 14) rfl (by kernel_rfl) rfl (wants_none rfl) (yq_of (y_move (fe_t rfl))) ?_
  refine tb_float (i := 15) rfl (by kernel_rfl) rfl (wants_none rfl) (yq_of (y_indexR Try.underlying114 Try.sizeOf125 (fe_t rfl) (fe_t rfl) (rch_w 0 rfl (by omega)) (by omega) rfl)) ?_
  refine tb_float1 (i := 16) rfl (by kernel_rfl) (by kernel_rfl) rfl (wants_none rfl) (yq_of (y_ldA (cs := cI3 (gl l j)) Try.isAgg125 Try.sizeOf125 (fe_t rfl) (rdl_vec 1 rfl) rfl (by decide) (flatGA (d := d3) hcI (by omega)))) ?_
  refine tb_float (i := 17) rfl (by kernel_rfl) rfl (wants_none rfl) (yq_of (y_move (fe_t rfl))) ?_
  refine tb_float (i := 18) rfl (by kernel_rfl) rfl (wants_none rfl) (yq_of (y_nilCheck (fe_t rfl))) ?_
  refine tb_float (i := 19) rfl (by kernel_rfl) rfl (wants_none rfl) (yq_of (y_fieldAddr (td := 114) Try.underlying116 rfl rfl Try.sizeOf114 (o' := 0) rfl (fe_t rfl))) ?_
  refine tb_float (i := 20) rfl (by kernel_rfl) rfl (wants_none rfl) (yq_of (y_ldb 1 Try.isAgg114 (fe_t rfl) rfl rfl)) ?_
  refine tb_float (i := 21) rfl (by kernel_rfl) rfl (wants_none rfl) (yq_of (y_move (fe_t rfl))) ?_
  refine tb_float (i := 22) rfl (by kernel_rfl) rfl (wants_none rfl) (yq_of (y_indexR Try.underlying114 Try.sizeOf125 (fe_t rfl) (fe_t rfl) (rch_w 0 rfl (by omega)) (by omega) rfl)) ?_
  refine tb_float1 (i := 23) rfl (by kernel_rfl) (by kernel_rfl) rfl (wants_none rfl) (yq_of (y_ldA (cs := cI3 (gl l i)) Try.isAgg125 Try.sizeOf125 (fe_t rfl) (rdl_vec 1 rfl) rfl (by decide) (flatGA (d := d3) hcI (by omega)))) ?_
  refine tb_float (i := 24) rfl (by kernel_rfl) rfl (wants_none rfl) (yq_of (y_indexR Try.underlying114 Try.sizeOf125 (fe_t rfl) (fe_t rfl) (rch_w 0 rfl (by omega)) (by omega) rfl)) ?_
  refine tb_one2 (i := 25) rfl (by kernel_rfl) (by kernel_rfl) (wants_none rfl) (oj_storeR (i := 1) (gl l j) hcI Try.sizeOf125 (fe_t rfl) (fe_t rfl) rfl rfl rfl (by omega) (by decide) (⟨fun w h => (h.weak (i := 1) rfl).pick [1, 0, 2] _ rfl (by decide), ?_⟩))
  refine tb_float (i := 26) rfl (by kernel_rfl) rfl (wants_none rfl) (yq_of (y_indexR Try.underlying114 Try.sizeOf125 (fe_t rfl) (fe_t rfl) (rch_w 0 rfl (by omega)) (by omega) rfl)) ?_
  refine tb_one2 (i := 27) rfl (by kernel_rfl) (by kernel_rfl) (wants_none rfl) (oj_storeR (i := 1) (gl l i) hcI Try.sizeOf125 (fe_t rfl) (fe_t rfl) rfl rfl rfl (by rw [List.length_set]; omega) (by decide) (⟨fun w h => (h.weak (i := 1) rfl).pick [1, 0, 2] _ rfl (by decide), ?_⟩))
  refine tb_done (by kernel_rfl) ?_
  refine tx_then ?_
  refine tr_as (r' := vec 125 3 (.slice A n c) n ((swp l i j).flatMap cI3)) 1 rfl rfl ?_
  have hn2 : (swp l i j).length = n := by rw [swp_len]; exact hn
  refine tb_draw 26 (sel _ [0, 1]) (fun w h => h.sel _ rfl (by decide)) rfl ?_
  refine tb_float (i := 0) rfl (by kernel_rfl) rfl (wants_none rfl) (yq_of (y_move (fe_t rfl))) ?_
  refine tb_float (i := 1) rfl (by kernel_rfl) rfl (wants_none rfl) (yq_of (y_nilCheck (fe_t rfl))) ?_
  refine tb_float (i := 2) rfl (by kernel_rfl) rfl (wants_none rfl) (yq_of (y_fieldAddr (td := 113) Try.underlying116 rfl rfl Try.sizeOf113 (o' := 1) rfl (fe_t rfl))) ?_
  refine tb_float (i := 3) rfl (by kernel_rfl) rfl (wants_none rfl) (yq_of (y_ldb 0 Try.isAgg113 (fe_t rfl) rfl rfl)) ?_
  refine tb_float (i := 4) rfl (by kernel_rfl) rfl (wants_none rfl) (yq_of (y_move (fe_t rfl))) ?_
  refine tb_float (i := 5) rfl (by kernel_rfl) rfl (wants_none rfl) (yq_of (y_nilCheck (fe_t rfl))) ?_
  refine tb_float (i := 6) rfl (by kernel_rfl) rfl (wants_none rfl) (yq_of (y_fieldAddr (td := 114) Try.underlying116 rfl rfl Try.sizeOf114 (o' := 0) rfl (fe_t rfl))) ?_
  refine tb_float (i := 7) rfl (by kernel_rfl) rfl (wants_none rfl) (yq_of (y_ldb 0 Try.isAgg114 (fe_t rfl) rfl rfl)) ?_
  refine tb_float (i := 8) rfl (by kernel_rfl) rfl (wants_none rfl) (yq_of (y_move (fe_t rfl))) ?_
  refine tb_float (i := 9) rfl (by kernel_rfl) rfl (wants_none rfl) (yq_of (y_index Try.underlying114 Try.sizeOf125 (fe_t rfl) (fe_t rfl) (rdl_vec 1 rfl) (by rw [flat_len hcI, hn2]) (by decide) (by omega) rfl)) ?_
  refine tb_float (i := 10) rfl (by kernel_rfl) rfl (wants_none rfl) (yq_of (y_fieldAddrE (td := 3) Try.underlying125 rfl rfl Try.sizeOf3 rfl (fe_t rfl) (rdl_vec 1 rfl) (by rw [flat_len hcI, hn2]; omega))) ?_
  refine tb_float (i := 11) rfl (by kernel_rfl) rfl (wants_none rfl) (yq_of (y_ld Try.isAgg3 (fe_t rfl) (rdl_vec 1 rfl) (flatG (d := d3) (i := 0) hcI (by omega) rfl))) ?_
  refine tb_float (i := 12) rfl (by kernel_rfl) rfl (wants_none rfl) (yq_of (y_move (fe_t rfl))) ?_
  refine tb_float (i := 13) rfl (by kernel_rfl) rfl (wants_none rfl) (yq_of (y_nilCheck (fe_t rfl))) ?_
  refine tb_float (i := 14) rfl (by kernel_rfl) rfl (wants_none rfl) (yq_of (y_fieldAddr (td := 113) Try.underlying116 rfl rfl Try.sizeOf113 (o' := 1) rfl (fe_t rfl))) ?_
  refine tb_float (i := 15) rfl (by kernel_rfl) rfl (wants_none rfl) (yq_of (y_ldb 0 Try.isAgg113 (fe_t rfl) rfl rfl)) ?_
  refine tb_float (i := 16) rfl (by kernel_rfl) rfl (wants_none rfl) (yq_of (y_move (fe_t rfl))) ?_
  refine tb_float (i := 17) rfl (by kernel_rfl) rfl (wants_none rfl) (yq_of (y_nilCheck (fe_t rfl))) ?_
  refine tb_float (i := 18) rfl (by kernel_rfl) rfl (wants_none rfl) (yq_of (y_fieldAddr (td := 114) Try.underlying116 rfl rfl Try.sizeOf114 (o' := 0) rfl (fe_t rfl))) ?_
  refine tb_float (i := 19) rfl (by kernel_rfl) rfl (wants_none rfl) (yq_of (y_ldb 0 Try.isAgg114 (fe_t rfl) rfl rfl)) ?_
  refine tb_float (i := 20) rfl (by kernel_rfl) rfl (wants_none rfl) (yq_of (y_move (fe_t rfl))) ?_
  refine tb_float (i := 21) rfl (by kernel_rfl) rfl (wants_none rfl) (yq_of (y_index Try.underlying114 Try.sizeOf125 (fe_t rfl) (fe_t rfl) (rdl_vec 1 rfl) (by rw [flat_len hcI, hn2]) (by decide) (by omega) rfl)) ?_
  refine tb_float (i := 22) rfl (by kernel_rfl) rfl (wants_none rfl) (yq_of (y_fieldAddrE (td := 3) Try.underlying125 rfl rfl Try.sizeOf3 rfl (fe_t rfl) (rdl_vec 1 rfl) (by rw [flat_len hcI, hn2]; omega))) ?_
  refine tb_float (i := 23) rfl (by kernel_rfl) rfl (wants_none rfl) (yq_of (y_ld Try.isAgg3 (fe_t rfl) (rdl_vec 1 rfl) (flatG (d := d3) (i := 0) hcI (by omega) rfl))) ?_
  refine tb_float (i := 24) rfl (by kernel_rfl) rfl (wants_none rfl) (yq_of (y_move (fe_t rfl))) ?_
  refine tb_float (i := 25) rfl (by kernel_rfl) rfl (wants_none rfl) (yq_of (y_move (fe_t rfl))) ?_
  refine tb_one2 (i := 26) rfl (by kernel_rfl) (by kernel_rfl) (wants_none rfl) (oj_mapEntry 2 Try.underlying113 Try.underlying3 (fe_t rfl) (fe_t rfl) rfl (hmo.g1 (by omega) (by omega)) (fun q1 => ⟨fun w h => h.pick [0, 1] _ rfl (by decide), ?_⟩))
  refine tb_float (i := 27) rfl (by kernel_rfl) rfl (wants_none rfl) (yq_of (y_extract (fe_t rfl) rfl)) ?_
  refine tb_one2 (i := 28) rfl (by kernel_rfl) (by kernel_rfl) (wants_none rfl) (oj_entryStore 2 (fe_t rfl) (fe_t rfl) (fe_t rfl) rfl (⟨fun w h => h.pick [0, 1] _ rfl (by decide), ?_⟩))
  refine tb_one2 (i := 29) rfl (by kernel_rfl) (by kernel_rfl) (wants_none rfl) (oj_mapEntry 2 Try.underlying113 Try.underlying3 (fe_t rfl) (fe_t rfl) rfl (hmo.g2 (by omega) (by omega)) (fun q2 => ⟨fun w h => h.pick [0, 1] _ rfl (by decide), ?_⟩))
  refine tb_float (i := 30) rfl (by kernel_rfl) rfl (wants_none rfl) (yq_of (y_extract (fe_t rfl) rfl)) ?_
  refine tb_one2 (i := 31) rfl (by kernel_rfl) (by kernel_rfl) (wants_none rfl) (oj_entryStore 2 (fe_t rfl) (fe_t rfl) (fe_t rfl) rfl (⟨fun w h => h.pick [0, 1] _ rfl (by decide), ?_⟩))
  refine tb_done (by kernel_rfl) ?_
  refine tx_end (res0 Try.results97 ) (fun w' hS => ?_)
  have h1 := pickT (l := [_, _, _]) hS [0, 1, 2] rfl (by decide)
  exact ⟨_, hmo.swp hin (by omega) (by omega), rfl, h1⟩

end Go.Proofs.Ytpknjfeiiaopgaa.Heap
