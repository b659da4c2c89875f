/- wfq.Wrong, OWrong. -/
import Derived.Test.YtcpdelkamckmfaaWqF
namespace Go.Proofs.Ytcpdelkamckmfaa.Wfq
open Go.RowKit Go.Proofs.Ytcpdelkamckmfaa.E Go.Proofs.Ytcpdelkamckmfaa.Scfq

theorem getW {zs : List Int} {j : Nat} (h : j < zs.length) : (zs.map (Value.int .i64))[j]? = some (.int .i64 (zs.getD j 0)) := by simp [h]
theorem wstep {ws : List Int} {k : Nat} : (∀ j, j < k + 1 → 1 ≤ ws.getD j 0 ∧ ws.getD j 0 ≤ 12) ↔ (∀ j, j < k → 1 ≤ ws.getD j 0 ∧ ws.getD j 0 ≤ 12) ∧ 1 ≤ ws.getD k 0 ∧ ws.getD k 0 ≤ 12 := by
  constructor
  · intro h
    exact ⟨fun j hj => h j (by omega), h k (by omega)⟩
  · rintro ⟨h1, h2⟩ j hj
    by_cases h : j < k
    · exact h1 j h
    · obtain rfl : j = k := by omega
      exact h2

theorem ow_f {ws : List Int} {n k : Nat} {b : Bool} (hn : ws.length = n) (hk : k = n) (hb : b = true ↔ n ≤ 16 ∧ ∀ j, j < k → 1 ≤ ws.getD j 0 ∧ ws.getD j 0 ≤ 12) (h : b = false) : 16 < ws.length ∨ ∃ k, k < ws.length ∧ (ws.getD k 0 < 1 ∨ 12 < ws.getD k 0) := by
  subst hk
  by_cases h1 : k ≤ 16
  · right
    apply Classical.byContradiction
    intro hc
    have : b = true := hb.2 ⟨h1, fun j hj => by
      apply Classical.byContradiction
      intro h2
      exact hc ⟨j, by omega, by omega⟩⟩
    rw [h] at this
    cases this
  · omega

set_option maxRecDepth 100000 in
set_option maxHeartbeats 1000000 in
theorem wrongE (A : Option Addr) (n c : Nat) (ws : List Int) (w : World) (hr : Rd w A (ws.map (.int .i64))) (hn : ws.length = n) (hm : n ≤ 140737488355328) :
    Calls Try.prog 69 #[.slice A n c] w fun e w' => e = .returned ((.int .i64 (wrongOf ws))) ∧ St w w' [] := by
  refine calls_tr Try.func69 Try.ntmps69 rfl rfl (St.refl _) ?_
  refine tr_seq ?_
  refine tr_region ?_
  refine tl_step rfl (oj_val (y_assign fe_c) ?_)
  refine tl_nil ?_
  refine tx_then ?_
  refine tr_seq ?_
  refine tr_seq ?_
  refine tr_region ?_
  refine tl_step rfl (oj_val (y_move (fe_t rfl)) ?_)
  refine tl_step rfl (oj_val (y_len Try.underlying79 (fe_t rfl)) ?_)
  refine tl_step rfl (oj_val (y_gtr (fe_t rfl) fe_c) ?_)
  refine tl_nil ?_
  refine tx_then ?_
  refine tr_condp (fe_t rfl) (fun hq1 => ?_) (fun hq2 => ?_)
  · try (exfalso; omega)
    all_goals
      refine tr_seq ?_
      refine tr_region ?_
      refine tl_step rfl (oj_val (y_assign fe_c) ?_)
      refine tl_nil ?_
      refine tx_then ?_
      refine tr_ret ?_
      refine tx_then_ret ?_
      refine tx_ret (res1 Try.results69 (rok_t rfl)) (fun w' hS => ?_)
      exact ⟨by rw [wrong_f (.inl (by omega))], hS.pick [] _ rfl (by decide)⟩
  · try (exfalso; omega)
    all_goals
      refine tr_skip ?_
      refine tx_then ?_
      refine tr_seq ?_
      refine tr_seq ?_
      refine tr_region ?_
      refine tl_step rfl (oj_val (y_move (fe_t rfl)) ?_)
      refine tl_step rfl (oj_val (y_len Try.underlying79 (fe_t rfl)) ?_)
      refine tl_step rfl (oj_val (y_move fe_c) ?_)
      refine tl_nil ?_
      refine tx_then ?_
      refine tr_block ?_
      refine tr_loop1 [2, 4, 10, 11, 12, 13, 14, 15, 16, 17, 18, 19, 20] (fun (k : Nat) => [(10, .int .i64 (k : Int))]) 0 (fun (k : Nat) => []) (fun (k : Nat) => k ≤ n ∧ ∀ j, j < k → 1 ≤ ws.getD j 0 ∧ ws.getD j 0 ≤ 12) (fun (k : Nat) => n - k) (0) (cov_cons (by first | rfl | exact v_int (by omega) | exact v_bool (by simp [*])) (cov_nil)) (fun w h => h) ?_ ?_
      · try dsimp only
        exact ⟨by omega, fun j h => by omega⟩
      intro k hp
      obtain ⟨hk, hall⟩ := hp
      refine tr_seq ?_
      refine tr_region ?_
      refine tl_step rfl (oj_val (y_lss (fe_t rfl) (fe_t rfl)) ?_)
      refine tl_nil ?_
      refine tx_then ?_
      refine tr_seq ?_
      refine tr_condp (fe_t rfl) (fun hq3 => ?_) (fun hq4 => ?_)
      · try (exfalso; omega)
        all_goals
          refine tr_skip ?_
          refine tx_then ?_
          refine tr_seq ?_
          refine tr_block ?_
          refine tr_seq ?_
          refine tr_region ?_
          refine tl_step rfl (oj_val (y_index Try.underlying79 Try.sizeOf3 (fe_t rfl) (fe_t rfl) (rdl_out hr) (by simp; omega) (by decide) (by omega) (Nat.mul_one _)) ?_)
          refine tl_step rfl (oj_val (y_ld Try.isAgg3 (fe_t rfl) (rdl_out hr) (getW (by omega))) ?_)
          refine tl_step rfl (oj_val (y_assign (fe_t rfl)) ?_)
          refine tl_nil ?_
          refine tx_then ?_
          refine tr_seq ?_
          refine tr_region ?_
          refine tl_step rfl (oj_val (y_move (fe_t rfl)) ?_)
          refine tl_step rfl (oj_val (y_lss (fe_t rfl) fe_c) ?_)
          refine tl_step rfl (oj_val (y_move (fe_t rfl)) ?_)
          refine tl_splitp (d := 16) rfl (fun hq5 => ?_) (fun hq6 => ?_)
          · try (exfalso; omega)
            all_goals
              refine tl_skip rfl rfl rfl rfl ?_
              refine tl_skip rfl rfl rfl rfl ?_
              refine tl_step rfl (oj_val (y_pickt (fe_t rfl) fe_c) ?_)
              refine tl_nil ?_
              refine tx_then ?_
              refine tr_condt (fe_t rfl) ?_
              refine tr_seq ?_
              refine tr_region ?_
              refine tl_step rfl (oj_val (y_assign fe_c) ?_)
              refine tl_nil ?_
              refine tx_then ?_
              refine tr_ret ?_
              refine tx_in_ret ?_
              refine tx_then_ret ?_
              refine tx_then_ret ?_
              refine tx_in_ret ?_
              refine tx_then_ret ?_
              refine tx_ret (res1 Try.results69 (rok_t rfl)) (fun w' hS => ?_)
              exact ⟨by rw [wrong_f (.inr ⟨k, by omega, by omega⟩)], hS.pick [] _ rfl (by decide)⟩
          · try (exfalso; omega)
            all_goals
              refine tl_want rfl rfl rfl (oj_val (y_move (fe_t rfl)) ?_)
              refine tl_want rfl rfl rfl (oj_val (y_gtr (fe_t rfl) fe_c) ?_)
              refine tl_step rfl (oj_val (y_pickf (fe_t rfl) (fe_t rfl)) ?_)
              refine tl_nil ?_
              refine tx_then ?_
              refine tr_condp (fe_t rfl) (fun hq7 => ?_) (fun hq8 => ?_)
              · try (exfalso; omega)
                all_goals
                  refine tr_seq ?_
                  refine tr_region ?_
                  refine tl_step rfl (oj_val (y_assign fe_c) ?_)
                  refine tl_nil ?_
                  refine tx_then ?_
                  refine tr_ret ?_
                  refine tx_in_ret ?_
                  refine tx_then_ret ?_
                  refine tx_then_ret ?_
                  refine tx_in_ret ?_
                  refine tx_then_ret ?_
                  refine tx_ret (res1 Try.results69 (rok_t rfl)) (fun w' hS => ?_)
                  exact ⟨by rw [wrong_f (.inr ⟨k, by omega, by omega⟩)], hS.pick [] _ rfl (by decide)⟩
              · try (exfalso; omega)
                all_goals
                  refine tr_skip ?_
                  refine tx_in ?_
                  refine tx_then ?_
                  refine tr_region ?_
                  refine tl_step rfl (oj_val (y_inc (fe_t rfl) fe_c (by omega)) ?_)
                  refine tl_step rfl (oj_val (y_move (fe_t rfl)) ?_)
                  refine tl_nil ?_
                  apply tx_back1 (k + 1)
                  · exact (cov_cons (by first | rfl | exact v_int (by omega) | exact v_bool (by simp [*])) (cov_nil))
                  · repeat (first | exact over_nil | refine over_put rfl ?_ | refine over_drop rfl ?_)
                  · exact fun w h => h.pick [] _ rfl (by decide)
                  · exact ⟨⟨by omega, wstep.2 ⟨hall, by omega⟩⟩, by omega⟩
      · try (exfalso; omega)
        all_goals
          refine tr_exit ?_
          refine tx_then_exit ?_
          refine tx_then_exit ?_
          refine tx_in_exit ?_
          refine tx_then ?_
          refine tr_seq ?_
          refine tr_region ?_
          refine tl_step rfl (oj_val (y_assign fe_c) ?_)
          refine tl_nil ?_
          refine tx_then ?_
          refine tr_ret ?_
          refine tx_ret (res1 Try.results69 (rok_t rfl)) (fun w' hS => ?_)
          exact ⟨by rw [wrong_t (by omega) (fun j hj => hall j (by omega))], hS.pick [] _ rfl (by decide)⟩

set_option maxRecDepth 100000 in
set_option maxHeartbeats 2000000 in
theorem owrongE (A : Option Addr) (n c : Nat) (ws : List Int) (w : World) (hr : Rd w A (ws.map (.int .i64))) (hn : ws.length = n) (hm : n ≤ 140737488355328) :
    Calls Try.prog 68 #[.slice A n c] w fun e w' => e = .returned ((.int .i64 (wrongOf ws))) ∧ St w w' [] := by
  refine calls_tr Try.func68 Try.ntmps68 rfl rfl (St.refl _) ?_
  refine tr_seq ?_
  refine tr_region ?_
  refine tl_step rfl (oj_val (y_assign fe_c) ?_)
  refine tl_nil ?_
  refine tx_then ?_
  refine tr_seq ?_
  refine tr_region ?_
  refine tl_step rfl (oj_val (y_move (fe_t rfl)) ?_)
  refine tl_step rfl (oj_val (y_len Try.underlying79 (fe_t rfl)) ?_)
  refine tl_step rfl (oj_val (y_lss (fe_t rfl) fe_c) ?_)
  refine tl_step rfl (oj_val (y_assign (fe_t rfl)) ?_)
  refine tl_nil ?_
  refine tx_then ?_
  refine tr_seq ?_
  refine tr_seq ?_
  refine tr_region ?_
  refine tl_step rfl (oj_val (y_move (fe_t rfl)) ?_)
  refine tl_step rfl (oj_val (y_len Try.underlying79 (fe_t rfl)) ?_)
  refine tl_step rfl (oj_val (y_move fe_c) ?_)
  refine tl_nil ?_
  refine tx_then ?_
  refine tr_block ?_
  refine tr_loop2 [3, 5, 11, 12, 13, 14, 15, 16, 17, 18, 19, 20, 21, 22, 23, 24] (fun (k : Nat) (b : Bool) => [(11, .int .i64 (k : Int)), (3, .bool b)]) 0 (fun (k : Nat) (b : Bool) => []) (fun (k : Nat) (b : Bool) => k ≤ n ∧ (b = true ↔ n ≤ 16 ∧ ∀ j, j < k → 1 ≤ ws.getD j 0 ∧ ws.getD j 0 ≤ 12)) (fun (k : Nat) (b : Bool) => n - k) (0) (decide ((n : Int) < 17)) (cov_cons (by first | rfl | exact v_int (by omega) | exact v_bool (by simp [*])) (cov_cons (by first | rfl | exact v_int (by omega) | exact v_bool (by simp [*])) (cov_nil))) (fun w h => h) ?_ ?_
  · try dsimp only
    exact ⟨by omega, by simp <;> omega⟩
  intro k b hp
  obtain ⟨hk, hb⟩ := hp
  refine tr_seq ?_
  refine tr_region ?_
  refine tl_step rfl (oj_val (y_lss (fe_t rfl) (fe_t rfl)) ?_)
  refine tl_nil ?_
  refine tx_then ?_
  refine tr_seq ?_
  refine tr_condp (fe_t rfl) (fun hq1 => ?_) (fun hq2 => ?_)
  · try (exfalso; omega)
    all_goals
      refine tr_skip ?_
      refine tx_then ?_
      refine tr_seq ?_
      refine tr_block ?_
      refine tr_seq ?_
      refine tr_region ?_
      refine tl_step rfl (oj_val (y_index Try.underlying79 Try.sizeOf3 (fe_t rfl) (fe_t rfl) (rdl_out hr) (by simp; omega) (by decide) (by omega) (Nat.mul_one _)) ?_)
      refine tl_step rfl (oj_val (y_ld Try.isAgg3 (fe_t rfl) (rdl_out hr) (getW (by omega))) ?_)
      refine tl_step rfl (oj_val (y_assign (fe_t rfl)) ?_)
      refine tl_nil ?_
      refine tx_then ?_
      refine tr_region ?_
      refine tl_step rfl (oj_val (y_move (fe_t rfl)) ?_)
      refine tl_step rfl (oj_val (y_move (fe_t rfl)) ?_)
      refine tl_split (d := 16) rfl (fun hq3 => ?_) (fun hq4 => ?_)
      · try (exfalso; omega)
        all_goals
          refine tl_want rfl rfl rfl (oj_val (y_move (fe_t rfl)) ?_)
          refine tl_want rfl rfl rfl (oj_val (y_gtr (fe_t rfl) fe_c) ?_)
          refine tl_step rfl (oj_val (y_pickt (fe_t rfl) (fe_t rfl)) ?_)
          refine tl_step rfl (oj_val (y_move (fe_t rfl)) ?_)
          refine tl_splitp (d := 20) rfl (fun hq5 => ?_) (fun hq6 => ?_)
          · try (exfalso; omega)
            all_goals
              refine tl_want rfl rfl rfl (oj_val (y_move (fe_t rfl)) ?_)
              refine tl_want rfl rfl rfl (oj_val (y_lss (fe_t rfl) fe_c) ?_)
              refine tl_step rfl (oj_val (y_pickt (fe_t rfl) (fe_t rfl)) ?_)
              refine tl_step rfl (oj_val (y_assign (fe_t rfl)) ?_)
              refine tl_nil ?_
              refine tx_in ?_
              refine tx_then ?_
              refine tr_region ?_
              refine tl_step rfl (oj_val (y_inc (fe_t rfl) fe_c (by omega)) ?_)
              refine tl_step rfl (oj_val (y_move (fe_t rfl)) ?_)
              refine tl_nil ?_
              apply tx_back2 (k + 1) (_)
              · exact (cov_cons (by first | rfl | exact v_int (by omega) | exact v_bool (by simp [*])) (cov_cons (by first | rfl | exact v_int (by omega) | exact v_bool (by simp [*])) (cov_nil)))
              · repeat (first | exact over_nil | refine over_put rfl ?_ | refine over_drop rfl ?_)
              · exact fun w h => h.pick [] _ rfl (by decide)
              · refine ⟨⟨by omega, ?_⟩, by omega⟩
                rw [wstep]
                first
                  | exact ⟨fun h => ⟨(hb.1 ‹b = true›).1, (hb.1 ‹b = true›).2, by first | omega | (simp only [decide_eq_true_eq] at h; omega) | (simp at h; done)⟩, fun h => by obtain ⟨_, _, h1, h2⟩ := h; first | omega | (simp only [decide_eq_true_eq]; omega) | (simp; done) | (exfalso; omega)⟩
                  | exact ⟨fun h => by simp_all, fun h => absurd (hb.2 ⟨h.1, h.2.1⟩) (by simp [*])⟩
          · try (exfalso; omega)
            all_goals
              refine tl_skip rfl rfl rfl rfl ?_
              refine tl_skip rfl rfl rfl rfl ?_
              refine tl_step rfl (oj_val (y_pickf (fe_t rfl) fe_c) ?_)
              refine tl_step rfl (oj_val (y_assign (fe_t rfl)) ?_)
              refine tl_nil ?_
              refine tx_in ?_
              refine tx_then ?_
              refine tr_region ?_
              refine tl_step rfl (oj_val (y_inc (fe_t rfl) fe_c (by omega)) ?_)
              refine tl_step rfl (oj_val (y_move (fe_t rfl)) ?_)
              refine tl_nil ?_
              apply tx_back2 (k + 1) (_)
              · exact (cov_cons (by first | rfl | exact v_int (by omega) | exact v_bool (by simp [*])) (cov_cons (by first | rfl | exact v_int (by omega) | exact v_bool (by simp [*])) (cov_nil)))
              · repeat (first | exact over_nil | refine over_put rfl ?_ | refine over_drop rfl ?_)
              · exact fun w h => h.pick [] _ rfl (by decide)
              · refine ⟨⟨by omega, ?_⟩, by omega⟩
                rw [wstep]
                first
                  | exact ⟨fun h => ⟨(hb.1 ‹b = true›).1, (hb.1 ‹b = true›).2, by first | omega | (simp only [decide_eq_true_eq] at h; omega) | (simp at h; done)⟩, fun h => by obtain ⟨_, _, h1, h2⟩ := h; first | omega | (simp only [decide_eq_true_eq]; omega) | (simp; done) | (exfalso; omega)⟩
                  | exact ⟨fun h => by simp_all, fun h => absurd (hb.2 ⟨h.1, h.2.1⟩) (by simp [*])⟩
      · try (exfalso; omega)
        all_goals
          refine tl_skip rfl rfl rfl rfl ?_
          refine tl_skip rfl rfl rfl rfl ?_
          refine tl_step rfl (oj_val (y_pickf (fe_t rfl) fe_c) ?_)
          refine tl_step rfl (oj_val (y_move (fe_t rfl)) ?_)
          refine tl_skip rfl rfl rfl rfl ?_
          refine tl_skip rfl rfl rfl rfl ?_
          refine tl_step rfl (oj_val (y_pickf (fe_t rfl) fe_c) ?_)
          refine tl_step rfl (oj_val (y_assign (fe_t rfl)) ?_)
          refine tl_nil ?_
          refine tx_in ?_
          refine tx_then ?_
          refine tr_region ?_
          refine tl_step rfl (oj_val (y_inc (fe_t rfl) fe_c (by omega)) ?_)
          refine tl_step rfl (oj_val (y_move (fe_t rfl)) ?_)
          refine tl_nil ?_
          apply tx_back2 (k + 1) (_)
          · exact (cov_cons (by first | rfl | exact v_int (by omega) | exact v_bool (by simp [*])) (cov_cons (by first | rfl | exact v_int (by omega) | exact v_bool (by simp [*])) (cov_nil)))
          · repeat (first | exact over_nil | refine over_put rfl ?_ | refine over_drop rfl ?_)
          · exact fun w h => h.pick [] _ rfl (by decide)
          · refine ⟨⟨by omega, ?_⟩, by omega⟩
            rw [wstep]
            first
              | exact ⟨fun h => ⟨(hb.1 ‹b = true›).1, (hb.1 ‹b = true›).2, by first | omega | (simp only [decide_eq_true_eq] at h; omega) | (simp at h; done)⟩, fun h => by obtain ⟨_, _, h1, h2⟩ := h; first | omega | (simp only [decide_eq_true_eq]; omega) | (simp; done) | (exfalso; omega)⟩
              | exact ⟨fun h => by simp_all, fun h => absurd (hb.2 ⟨h.1, h.2.1⟩) (by simp [*])⟩
  · try (exfalso; omega)
    all_goals
      refine tr_exit ?_
      refine tx_then_exit ?_
      refine tx_then_exit ?_
      refine tx_in_exit ?_
      refine tx_then ?_
      refine tr_seq ?_
      refine tr_seq ?_
      refine tr_region ?_
      refine tl_step rfl (oj_val (y_move (fe_t rfl)) ?_)
      refine tl_step rfl (oj_val (y_not (fe_t rfl)) ?_)
      refine tl_nil ?_
      refine tx_then ?_
      refine tr_cond (fe_t rfl) (fun hq7 => ?_) (fun hq8 => ?_)
      · try (exfalso; omega)
        all_goals
          refine tr_seq ?_
          refine tr_region ?_
          refine tl_step rfl (oj_val (y_assign fe_c) ?_)
          refine tl_nil ?_
          refine tx_then ?_
          refine tr_ret ?_
          refine tx_then_ret ?_
          refine tx_ret (res1 Try.results68 (rok_t rfl)) (fun w' hS => ?_)
          exact ⟨by rw [wrong_f (ow_f hn (by omega) hb (by simpa using hq7))], hS.pick [] _ rfl (by decide)⟩
      · try (exfalso; omega)
        all_goals
          refine tr_skip ?_
          refine tx_then ?_
          refine tr_seq ?_
          refine tr_region ?_
          refine tl_step rfl (oj_val (y_assign fe_c) ?_)
          refine tl_nil ?_
          refine tx_then ?_
          refine tr_ret ?_
          refine tx_ret (res1 Try.results68 (rok_t rfl)) (fun w' hS => ?_)
          exact ⟨by rw [wrong_t (by have := (hb.1 (by simpa using hq8)).1; omega) (fun j hj => (hb.1 (by simpa using hq8)).2 j (by omega))], hS.pick [] _ rfl (by decide)⟩

end Go.Proofs.Ytcpdelkamckmfaa.Wfq
