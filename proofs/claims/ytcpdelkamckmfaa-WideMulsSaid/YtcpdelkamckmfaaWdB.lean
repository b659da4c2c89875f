/- Words compared, and the sum held at the top. -/
import Derived.Test.YtcpdelkamckmfaaWdA
namespace Go.Proofs.Ytcpdelkamckmfaa.Frac
open Go.RowKit Go.Proofs.Ytcpdelkamckmfaa.E Go.Proofs.Ytcpdelkamckmfaa.Big

set_option maxRecDepth 100000 in
set_option maxHeartbeats 400000 in
theorem nanE (x : Int) (w : World) :
    Calls Try.prog 170 #[.int .u64 x] w fun e w' => e = .returned (.bool false) ∧ St w w' [] := by
  refine calls_tr Try.func170 Try.ntmps170 rfl rfl (St.refl _) ?_
  refine tr_seq ?_
  refine tr_region ?_
  refine tl_step rfl (oj_val (y_assign fe_c) ?_)
  refine tl_nil ?_
  refine tx_then ?_
  refine tr_seq ?_
  refine tr_region ?_
  refine tl_step rfl (oj_val (y_move (fe_t rfl)) ?_)
  refine tl_step rfl (oj_val (y_move (fe_t rfl)) ?_)
  refine tl_step rfl (oj_val (y_neq (fe_t rfl) (fe_t rfl)) ?_)
  refine tl_step rfl (oj_val (y_assign (fe_t rfl)) ?_)
  refine tl_nil ?_
  refine tx_then ?_
  refine tr_ret ?_
  refine tx_ret (res1 Try.results170 (rok_t rfl)) (fun w' hS => ?_)
  exact ⟨by simp, hS.pick [] _ rfl (by decide)⟩

set_option maxRecDepth 100000 in
set_option maxHeartbeats 400000 in
theorem compareE (x y : Int) (w : World) :
    Calls Try.prog 128 #[.int .u64 x, .int .u64 y] w fun e w' => e = .returned ((.int .i64 (cmp x y))) ∧ St w w' [] := by
  refine calls_tr Try.func128 Try.ntmps128 rfl rfl (St.refl _) ?_
  refine tr_seq ?_
  refine tr_region ?_
  refine tl_step rfl (oj_val (y_assign fe_c) ?_)
  refine tl_nil ?_
  refine tx_then ?_
  refine tr_seq ?_
  refine tr_region ?_
  refine tl_step rfl (oj_val (y_move (fe_t rfl)) ?_)
  refine tl_step rfl (oj_callv Try.call170 fe_f (fel_cons (fe_t rfl) fel_nil) (fun w' hS => nanE _ w') ?_)
  refine tl_step rfl (oj_val (y_assign (fe_t rfl)) ?_)
  refine tl_nil ?_
  refine tx_then ?_
  refine tr_seq ?_
  refine tr_region ?_
  refine tl_step rfl (oj_val (y_move (fe_t rfl)) ?_)
  refine tl_step rfl (oj_callv Try.call170 fe_f (fel_cons (fe_t rfl) fel_nil) (fun w' hS => nanE _ w') ?_)
  refine tl_step rfl (oj_val (y_assign (fe_t rfl)) ?_)
  refine tl_nil ?_
  refine tx_then ?_
  refine tr_seq ?_
  refine tr_seq ?_
  refine tr_region ?_
  refine tl_step rfl (oj_val (y_move (fe_t rfl)) ?_)
  refine tl_nil ?_
  refine tx_then ?_
  refine tr_condf (fe_t rfl) ?_
  refine tr_skip ?_
  refine tx_then ?_
  refine tr_seq ?_
  refine tr_seq ?_
  refine tr_region ?_
  refine tl_step rfl (oj_val (y_move (fe_t rfl)) ?_)
  refine tl_nil ?_
  refine tx_then ?_
  refine tr_condf (fe_t rfl) ?_
  refine tr_skip ?_
  refine tx_then ?_
  refine tr_seq ?_
  refine tr_seq ?_
  refine tr_region ?_
  refine tl_step rfl (oj_val (y_move (fe_t rfl)) ?_)
  refine tl_step rfl (oj_val (y_move (fe_t rfl)) ?_)
  refine tl_step rfl (oj_val (y_lss (fe_t rfl) (fe_t rfl)) ?_)
  refine tl_nil ?_
  refine tx_then ?_
  refine tr_condp (fe_t rfl) (fun hq1 => ?_) (fun hq2 => ?_)
  · refine tr_seq ?_
    refine tr_region ?_
    refine tl_step rfl (oj_val (y_assign fe_c) ?_)
    refine tl_nil ?_
    refine tx_then ?_
    refine tr_ret ?_
    refine tx_then_ret ?_
    refine tx_ret (res1 Try.results128 (rok_t rfl)) (fun w' hS => ?_)
    exact ⟨by unfold cmp; repeat (first | rw [if_pos (by omega)] | rw [if_neg (by omega)]), hS.pick [] _ rfl (by decide)⟩
  · refine tr_skip ?_
    refine tx_then ?_
    refine tr_seq ?_
    refine tr_seq ?_
    refine tr_region ?_
    refine tl_step rfl (oj_val (y_move (fe_t rfl)) ?_)
    refine tl_step rfl (oj_val (y_move (fe_t rfl)) ?_)
    refine tl_step rfl (oj_val (y_gtr (fe_t rfl) (fe_t rfl)) ?_)
    refine tl_nil ?_
    refine tx_then ?_
    refine tr_condp (fe_t rfl) (fun hq3 => ?_) (fun hq4 => ?_)
    · refine tr_seq ?_
      refine tr_region ?_
      refine tl_step rfl (oj_val (y_assign fe_c) ?_)
      refine tl_nil ?_
      refine tx_then ?_
      refine tr_ret ?_
      refine tx_then_ret ?_
      refine tx_ret (res1 Try.results128 (rok_t rfl)) (fun w' hS => ?_)
      exact ⟨by unfold cmp; repeat (first | rw [if_pos (by omega)] | rw [if_neg (by omega)]), hS.pick [] _ rfl (by decide)⟩
    · refine tr_skip ?_
      refine tx_then ?_
      refine tr_seq ?_
      refine tr_region ?_
      refine tl_step rfl (oj_val (y_assign fe_c) ?_)
      refine tl_nil ?_
      refine tx_then ?_
      refine tr_ret ?_
      refine tx_ret (res1 Try.results128 (rok_t rfl)) (fun w' hS => ?_)
      exact ⟨by unfold cmp; repeat (first | rw [if_pos (by omega)] | rw [if_neg (by omega)]), hS.pick [] _ rfl (by decide)⟩

set_option maxRecDepth 100000 in
set_option maxHeartbeats 800000 in
theorem orE (A : Option Addr) (c : Nat) (a b : Int) (w : World) (hr : Rd w A [(.int .i64 a), (.int .i64 b)]) :
    Calls Try.prog 127 #[.slice A 2 c] w fun e w' => e = .returned ((.int .i64 (if a = 0 then b else a))) ∧ St w w' [] := by
  refine calls_tr Try.func127 Try.ntmps127 rfl rfl (St.refl _) ?_
  refine tr_seq ?_
  refine tr_region ?_
  refine tl_step rfl (oj_val (y_assign fe_c) ?_)
  refine tl_nil ?_
  refine tx_then ?_
  refine tr_seq ?_
  refine tr_region ?_
  refine tl_step rfl (oj_val (y_assign fe_c) ?_)
  refine tl_nil ?_
  refine tx_then ?_
  refine tr_seq ?_
  refine tr_seq ?_
  refine tr_region ?_
  refine tl_step rfl (oj_val (y_move (fe_t rfl)) ?_)
  refine tl_step rfl (oj_val (y_len Try.underlying79 (fe_t rfl)) ?_)
  refine tl_step rfl (oj_val (y_move fe_c) ?_)
  refine tl_nil ?_
  refine tx_then ?_
  refine tr_block ?_
  refine tr_loop1 [2, 5, 8, 9, 10, 11, 12, 13, 14, 15, 16] (fun (k : Nat) => [(8, .int .i64 (k : Int))]) 0 (fun (k : Nat) => []) (fun (k : Nat) => k ≤ 2 ∧ (0 < k → a = 0) ∧ (1 < k → b = 0)) (fun (k : Nat) => 2 - k) (0) (cov_cons (by first | rfl | exact v_int (by omega) | exact v_bool (by simp [*])) (cov_nil)) (fun w h => h) ?_ ?_
  · try dsimp only
    exact ⟨by omega, fun h => by omega, fun h => by omega⟩
  intro k hp
  have hi := hp
  obtain ⟨hk, hp0⟩ := hp
  refine tr_seq ?_
  refine tr_region ?_
  refine tl_step rfl (oj_val (y_lss (fe_t rfl) (fe_t rfl)) ?_)
  refine tl_nil ?_
  refine tx_then ?_
  refine tr_seq ?_
  refine tr_condp (fe_t rfl) (fun hq1 => ?_) (fun hq2 => ?_)
  · refine tr_skip ?_
    refine tx_then ?_
    refine tr_seq ?_
    refine tr_block ?_
    refine tr_seq ?_
    refine tr_region ?_
    refine tl_step rfl (oj_val (y_index Try.underlying79 Try.sizeOf3 (fe_t rfl) (fe_t rfl) (rdl_out hr) (rfl) (by decide) (by omega) (Nat.mul_one _)) ?_)
    refine tl_step rfl (oj_val (y_ld (v := (.int .i64 (if k = 0 then a else b))) Try.isAgg3 (fe_t rfl) (rdl_out hr) (by have : k = 0 ∨ k = 1 := (by omega); rcases this with rfl | rfl <;> rfl)) ?_)
    refine tl_step rfl (oj_val (y_assign (fe_t rfl)) ?_)
    refine tl_nil ?_
    refine tx_then ?_
    refine tr_seq ?_
    refine tr_region ?_
    refine tl_step rfl (oj_val (y_move (fe_t rfl)) ?_)
    refine tl_step rfl (oj_val (y_move (fe_t rfl)) ?_)
    refine tl_step rfl (oj_val (y_neq (fe_t rfl) (fe_t rfl)) ?_)
    refine tl_nil ?_
    refine tx_then ?_
    refine tr_condp (fe_t rfl) (fun hq3 => ?_) (fun hq4 => ?_)
    · have hz := hq3
      refine tr_seq ?_
      refine tr_region ?_
      refine tl_step rfl (oj_val (y_move (fe_t rfl)) ?_)
      refine tl_step rfl (oj_val (y_assign (fe_t rfl)) ?_)
      refine tl_nil ?_
      refine tx_then ?_
      refine tr_ret ?_
      refine tx_in_ret ?_
      refine tx_then_ret ?_
      refine tx_then_ret ?_
      refine tx_in_ret ?_
      refine tx_then_ret ?_
      refine tx_ret (res1 Try.results127 (rok_t rfl)) (fun w' hS => ?_)
      exact ⟨by first | (rw [show (if k = 0 then a else b) = if a = 0 then b else a by by_cases hk0 : k = 0 <;> simp only [hk0, if_true, if_false] at hz ⊢ <;> split <;> omega]; done) | (rw [if_pos (hi.2.1 (by omega)), hi.2.2 (by omega)]), hS.pick [] _ rfl (by decide)⟩
    · have hz := hq4
      refine tr_skip ?_
      refine tx_in ?_
      refine tx_then ?_
      refine tr_region ?_
      refine tl_step rfl (oj_val (y_inc (fe_t rfl) fe_c (by omega)) ?_)
      refine tl_step rfl (oj_val (y_move (fe_t rfl)) ?_)
      refine tl_nil ?_
      apply tx_back1 (k + 1)
      · exact (cov_cons (by first | rfl | exact v_int (by omega) | exact v_bool (by simp [*])) (cov_nil))
      · repeat (first | exact over_nil | refine over_put rfl ?_ | refine over_drop rfl ?_)
      · exact fun w h => h.pick [] _ rfl (by decide)
      · refine ⟨⟨by omega, fun _ => ?_, fun _ => ?_⟩, by omega⟩
        · by_cases hk0 : k = 0
          · simp only [hk0, if_true] at hz; omega
          · exact hi.2.1 (by omega)
        · by_cases hk0 : k = 0
          · omega
          · simp only [hk0, if_false] at hz; omega
  · refine tr_exit ?_
    refine tx_then_exit ?_
    refine tx_then_exit ?_
    refine tx_in_exit ?_
    refine tx_then ?_
    refine tr_seq ?_
    refine tr_region ?_
    refine tl_step rfl (oj_val (y_move (fe_t rfl)) ?_)
    refine tl_step rfl (oj_val (y_assign (fe_t rfl)) ?_)
    refine tl_nil ?_
    refine tx_then ?_
    refine tr_ret ?_
    refine tx_ret (res1 Try.results127 (rok_t rfl)) (fun w' hS => ?_)
    exact ⟨by first | (rw [show (if k = 0 then a else b) = if a = 0 then b else a by by_cases hk0 : k = 0 <;> simp only [hk0, if_true, if_false] at hz ⊢ <;> split <;> omega]; done) | (rw [if_pos (hi.2.1 (by omega)), hi.2.2 (by omega)]), hS.pick [] _ rfl (by decide)⟩

theorem cmp_cases (a b : Int) : cmp a b = -1 ∧ a < b ∨ cmp a b = 1 ∧ b < a ∨ cmp a b = 0 ∧ a = b := by unfold cmp; split <;> (try split) <;> omega
theorem cmp_wide {h l h' l' : Int} (a : WB h l) (b : WB h' l') : (if cmp h h' = 0 then cmp l l' else cmp h h') = cmp (h * 18446744073709551616 + l) (h' * 18446744073709551616 + l') := by
  obtain ⟨a0, a1, a2, a3⟩ := a
  obtain ⟨b0, b1, b2, b3⟩ := b
  have g1 := cmp_cases h h'
  have g2 := cmp_cases l l'
  have g3 := cmp_cases (h * 18446744073709551616 + l) (h' * 18446744073709551616 + l')
  generalize cmp h h' = u at *
  generalize cmp l l' = v at *
  generalize cmp (h * 18446744073709551616 + l) (h' * 18446744073709551616 + l') = z at *
  split <;> omega
/-- What the sum is if it is held at the top. -/
def ws (z : Int) : Value := if wo z then .agg #[.int .u64 18446744073709551615, .int .u64 18446744073709551615] else wr z

set_option maxRecDepth 100000 in
set_option maxHeartbeats 1000000 in
theorem wcmpE {h l h' l' : Int} (ha : WB h l) (hb : WB h' l') (w : World) :
    Calls Try.prog 43 #[.agg #[.int .u64 h, .int .u64 l], .agg #[.int .u64 h', .int .u64 l']] w fun e w' => e = .returned ((.int .i64 (cmp (h * 18446744073709551616 + l) (h' * 18446744073709551616 + l')))) ∧ St w w' [] := by
  refine calls_tr Try.func43 Try.ntmps43 rfl rfl (St.refl _) ?_
  refine tr_seq ?_
  refine tr_region ?_
  refine tl_step rfl (oj_box (fe_t rfl) (fun b1 => ?_))
  refine tl_step rfl (oj_box (fe_t rfl) (fun b2 => ?_))
  refine tl_step rfl (oj_val (y_assign fe_c) ?_)
  refine tl_nil ?_
  refine tx_then ?_
  refine tr_seq ?_
  refine tb_draw 13 (sel _ [0, 1]) (fun w h => h.sel _ rfl (by decide)) rfl ?_
  refine tb_float (i := 0) rfl (by kernel_rfl) rfl (wants_none rfl) (yq_of (y_fieldAddr (td := 41) Try.underlying54 rfl rfl Try.sizeOf41 (o' := 0) rfl (fe_t rfl))) ?_
  refine tb_float (i := 1) rfl (by kernel_rfl) rfl (wants_none rfl) (yq_of (y_ldb 1 Try.isAgg41 (fe_t rfl) rfl rfl)) ?_
  refine tb_float (i := 2) rfl (by kernel_rfl) rfl (wants_none rfl) (yq_of (y_fieldAddr (td := 41) Try.underlying54 rfl rfl Try.sizeOf41 (o' := 0) rfl (fe_t rfl))) ?_
  refine tb_float (i := 3) rfl (by kernel_rfl) rfl (wants_none rfl) (yq_of (y_ldb 0 Try.isAgg41 (fe_t rfl) rfl rfl)) ?_
  refine tb_float (i := 4) rfl (by kernel_rfl) rfl (wants_none rfl) (yq_call Try.call128 fe_f (fel_cons (fe_t rfl) (fel_cons (fe_t rfl) fel_nil)) (fun w' hS => compareE _ _ w')) ?_
  refine tb_float (i := 5) rfl (by kernel_rfl) rfl (wants_none rfl) (yq_of (y_fieldAddr (td := 41) Try.underlying54 rfl rfl Try.sizeOf41 (o' := 1) rfl (fe_t rfl))) ?_
  refine tb_float (i := 6) rfl (by kernel_rfl) rfl (wants_none rfl) (yq_of (y_ldb 1 Try.isAgg41 (fe_t rfl) rfl rfl)) ?_
  refine tb_float (i := 7) rfl (by kernel_rfl) rfl (wants_none rfl) (yq_of (y_fieldAddr (td := 41) Try.underlying54 rfl rfl Try.sizeOf41 (o' := 1) rfl (fe_t rfl))) ?_
  refine tb_float (i := 8) rfl (by kernel_rfl) rfl (wants_none rfl) (yq_of (y_ldb 0 Try.isAgg41 (fe_t rfl) rfl rfl)) ?_
  refine tb_float (i := 9) rfl (by kernel_rfl) rfl (wants_none rfl) (yq_call Try.call128 fe_f (fel_cons (fe_t rfl) (fel_cons (fe_t rfl) fel_nil)) (fun w' hS => compareE _ _ w')) ?_
  refine tb_one2 (i := 10) rfl (by kernel_rfl) (by kernel_rfl) (wants_none rfl) (oj_lit2 (k := .i64) (a := cmp h h') (b := cmp l l') Try.underlying79 Try.sizeOf3 Try.zeroValue3 (fe_t rfl) (fe_t rfl) (fun g => ⟨fun w h => h.pick [1, 2] _ rfl (by decide), ?_⟩))
  refine tb_one2 (i := 11) rfl (by kernel_rfl) (by kernel_rfl) (wants_none rfl) (oj_callv Try.call127 fe_f (fel_cons (fe_t rfl) fel_nil) (fun w' hS => orE _ _ _ _ w' (rdl_vec 0 rfl _ hS)) (⟨fun w h => h.pick [1, 2] _ rfl (by decide), ?_⟩))
  refine tb_float (i := 12) rfl (by kernel_rfl) rfl (wants_none rfl) (yq_of (y_assign (fe_t rfl))) ?_
  refine tb_done (by kernel_rfl) ?_
  refine tx_then ?_
  refine tr_ret ?_
  refine tx_ret (res1 Try.results43 (rok_t rfl)) (fun w' hS => ?_)
  exact ⟨by rw [← cmp_wide ha hb] <;> rfl, hS.pick [] _ rfl (by decide)⟩

set_option maxRecDepth 100000 in
set_option maxHeartbeats 1000000 in
theorem wsatE {h l h' l' : Int} (ha : WB h l) (hb : WB h' l') (w : World) :
    Calls Try.prog 45 #[.agg #[.int .u64 h, .int .u64 l], .agg #[.int .u64 h', .int .u64 l']] w fun e w' => e = .returned (ws ((h * 18446744073709551616 + l) + (h' * 18446744073709551616 + l'))) ∧ St w w' [] := by
  refine calls_tr Try.func45 Try.ntmps45 rfl rfl (St.refl _) ?_
  refine tr_seq ?_
  refine tr_region ?_
  refine tl_step rfl (oj_box (fe_t rfl) (fun b1 => ?_))
  refine tl_step rfl (oj_box (fe_t rfl) (fun b2 => ?_))
  refine tl_step rfl (oj_alloc Try.zeroValue54 (fun b3 => ?_))
  refine tl_nil ?_
  refine tx_then ?_
  refine tr_seq ?_
  refine tr_region ?_
  refine tl_step rfl (oj_val (y_ldbA 2 Try.isAgg54 Try.sizeOf54 (fe_t rfl) rfl rfl rfl) ?_)
  refine tl_step rfl (oj_val (y_ldbA 1 Try.isAgg54 Try.sizeOf54 (fe_t rfl) rfl rfl rfl) ?_)
  refine tl_step rfl (oj_callv Try.call38 fe_f (fel_cons (fe_t rfl) (fel_cons (fe_t rfl) fel_nil)) (fun w' hS => waddE ha hb w') ?_)
  refine tl_step rfl (oj_val (y_move (fe_t rfl)) ?_)
  refine tl_step rfl (oj_val (y_extract (fe_t rfl) rfl) ?_)
  refine tl_step rfl (oj_val (y_extract (fe_t rfl) rfl) ?_)
  refine tl_step rfl (oj_alloc Try.zeroValue54 (fun b4 => ?_))
  refine tl_step rfl (oj_storeW 0 Try.sizeOf54 (fe_t rfl) (fe_t rfl) rfl rfl rfl rfl rfl (?_))
  refine tl_step rfl (oj_val (y_assign (fe_t rfl)) ?_)
  refine tl_nil ?_
  refine tx_then ?_
  refine tr_seq ?_
  refine tr_seq ?_
  refine tr_region ?_
  refine tl_step rfl (oj_val (y_move (fe_t rfl)) ?_)
  refine tl_nil ?_
  refine tx_then ?_
  refine tr_cond (fe_t rfl) (fun hq1 => ?_) (fun hq2 => ?_)
  · have hw := hq1
    refine tr_seq ?_
    refine tr_region ?_
    refine tl_step rfl (oj_val ((fun {u0 u1} hx hb => y_build (is := [0, 1]) (vs := [u0, u1]) (cs := [u0, u1]) rfl hx hb) (fel_cons (fe_c (v := .int .u64 18446744073709551615)) (fel_cons (fe_c (v := .int .u64 18446744073709551615)) fel_nil)) (by kernel_rfl)) ?_)
    refine tl_step rfl (oj_storeW 1 Try.sizeOf54 (fe_t rfl) (fe_t rfl) rfl rfl rfl rfl rfl (?_))
    refine tl_nil ?_
    refine tx_then ?_
    refine tr_ret ?_
    refine tx_then_ret ?_
    refine tx_ret (res1 Try.results45 (rok_b 1 Try.isAgg54 Try.sizeOf54 rfl rfl rfl)) (fun w' hS => ?_)
    exact ⟨by simp only [ws, hw] <;> rfl, hS.pick [] _ rfl (by decide)⟩
  · have hw := hq2
    refine tr_skip ?_
    refine tx_then ?_
    refine tr_seq ?_
    refine tr_region ?_
    refine tl_step rfl (oj_val (y_ldbA 0 Try.isAgg54 Try.sizeOf54 (fe_t rfl) rfl rfl rfl) ?_)
    refine tl_step rfl (oj_storeW 1 Try.sizeOf54 (fe_t rfl) (fe_t rfl) rfl rfl rfl rfl rfl (?_))
    refine tl_nil ?_
    refine tx_then ?_
    refine tr_ret ?_
    refine tx_ret (res1 Try.results45 (rok_b 1 Try.isAgg54 Try.sizeOf54 rfl rfl rfl)) (fun w' hS => ?_)
    exact ⟨by simp only [ws, hw] <;> rfl, hS.pick [] _ rfl (by decide)⟩

end Go.Proofs.Ytcpdelkamckmfaa.Frac
