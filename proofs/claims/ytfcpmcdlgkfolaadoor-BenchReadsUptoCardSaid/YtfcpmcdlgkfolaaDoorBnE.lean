/- Walks: a number, digit by digit. -/
import Derived.Test.YtfcpmcdlgkfolaaDoorBnD
namespace Go.Proofs.YtfcpmcdlgkfolaaDoor.Bn
open Go.RowKit Go.Lib Go.Proofs.YtfcpmcdlgkfolaaDoor.E

set_option maxRecDepth 100000 in
set_option maxHeartbeats 2000000 in
theorem znumberE (l : List UInt8) (hl : l.length < 4294967281) (w : World) :
    Calls Tryd.prog 43 #[str l] w fun e w' => ∃ q : Int × Bool, (q.2 = okNum l ∧ (q.2 = true → q.1 = (val l : Int))) ∧ e = .returned (.tuple #[(.int .i64 q.1), .bool q.2]) ∧ St w w' [] := by
  refine calls_tr Tryd.func43 Tryd.ntmps43 rfl rfl (St.refl _) ?_
  refine tr_seq ?_
  refine tr_region ?_
  refine tl_step rfl (oj_val (y_assign fe_c) ?_)
  refine tl_step rfl (oj_val (y_assign fe_c) ?_)
  refine tl_nil ?_
  refine tx_then ?_
  refine tr_seq ?_
  refine tr_seq ?_
  refine tr_region ?_
  refine tl_step rfl (oj_val (y_move (fe_t rfl)) ?_)
  refine tl_step rfl (oj_val (y_eqs (fe_t rfl) fe_c) ?_)
  refine tl_step rfl (oj_val (y_move (fe_t rfl)) ?_)
  refine tl_splitp (d := 9) rfl (fun hq1 => ?_) (fun hq2 => ?_)
  · refine tl_skip rfl rfl rfl rfl ?_
    refine tl_skip rfl rfl rfl rfl ?_
    refine tl_skip rfl rfl rfl rfl ?_
    refine tl_step rfl (oj_val (y_pickt (fe_t rfl) fe_c) ?_)
    refine tl_step rfl (oj_val (y_move (fe_t rfl)) ?_)
    refine tl_skip rfl rfl rfl rfl ?_
    refine tl_skip rfl rfl rfl rfl ?_
    refine tl_skip rfl rfl rfl rfl ?_
    refine tl_skip rfl rfl rfl rfl ?_
    refine tl_skip rfl rfl rfl rfl ?_
    refine tl_skip rfl rfl rfl rfl ?_
    refine tl_skip rfl rfl rfl rfl ?_
    refine tl_skip rfl rfl rfl rfl ?_
    refine tl_step rfl (oj_val (y_pickt (fe_t rfl) fe_c) ?_)
    refine tl_nil ?_
    refine tx_then ?_
    refine tr_condt (fe_t rfl) ?_
    refine tr_seq ?_
    refine tr_region ?_
    refine tl_step rfl (oj_val (y_assign fe_c) ?_)
    refine tl_step rfl (oj_val (y_assign fe_c) ?_)
    refine tl_nil ?_
    refine tx_then ?_
    refine tr_ret ?_
    refine tx_then_ret ?_
    refine tx_ret (res2 Tryd.results43 (rok_t rfl) (rok_t rfl)) (fun w' hS => ?_)
    exact ⟨(0, false), ⟨num_head (.inl ‹l = []›), fun h => by cases h⟩, rfl, hS.pick [] _ rfl (by decide)⟩
  · refine tl_want rfl rfl rfl (oj_val (y_move (fe_t rfl)) ?_)
    refine tl_want rfl rfl rfl (oj_val (y_slen Tryd.underlying9 (fe_t rfl)) ?_)
    refine tl_want rfl rfl rfl (oj_val (y_gtr (fe_t rfl) fe_c) ?_)
    refine tl_step rfl (oj_val (y_pickf (fe_t rfl) (fe_t rfl)) ?_)
    refine tl_step rfl (oj_val (y_move (fe_t rfl)) ?_)
    refine tl_splitp (d := 14) rfl (fun hq3 => ?_) (fun hq4 => ?_)
    · refine tl_skip rfl rfl rfl rfl ?_
      refine tl_skip rfl rfl rfl rfl ?_
      refine tl_skip rfl rfl rfl rfl ?_
      refine tl_skip rfl rfl rfl rfl ?_
      refine tl_skip rfl rfl rfl rfl ?_
      refine tl_skip rfl rfl rfl rfl ?_
      refine tl_skip rfl rfl rfl rfl ?_
      refine tl_skip rfl rfl rfl rfl ?_
      refine tl_step rfl (oj_val (y_pickt (fe_t rfl) fe_c) ?_)
      refine tl_nil ?_
      refine tx_then ?_
      refine tr_condt (fe_t rfl) ?_
      refine tr_seq ?_
      refine tr_region ?_
      refine tl_step rfl (oj_val (y_assign fe_c) ?_)
      refine tl_step rfl (oj_val (y_assign fe_c) ?_)
      refine tl_nil ?_
      refine tx_then ?_
      refine tr_ret ?_
      refine tx_then_ret ?_
      refine tx_ret (res2 Tryd.results43 (rok_t rfl) (rok_t rfl)) (fun w' hS => ?_)
      exact ⟨(0, false), ⟨num_head (.inr (.inl (by omega))), fun h => by cases h⟩, rfl, hS.pick [] _ rfl (by decide)⟩
    · refine tl_want rfl rfl rfl (oj_val (y_move (fe_t rfl)) ?_)
      refine tl_want rfl rfl rfl (oj_val (y_sidx (i := 0) Tryd.underlying9 (fe_t rfl) fe_c (List.length_pos_iff.2 ‹¬ l = []›)) ?_)
      refine tl_want rfl rfl rfl (oj_val (y_eq (fe_t rfl) fe_c) ?_)
      refine tl_want rfl rfl rfl (oj_val (y_move (fe_t rfl)) ?_)
      refine tl_splitp (d := 18) rfl (fun hq5 => ?_) (fun hq6 => ?_)
      · refine tl_want rfl rfl rfl (oj_val (y_move (fe_t rfl)) ?_)
        refine tl_want rfl rfl rfl (oj_val (y_slen Tryd.underlying9 (fe_t rfl)) ?_)
        refine tl_want rfl rfl rfl (oj_val (y_gtr (fe_t rfl) fe_c) ?_)
        refine tl_want rfl rfl rfl (oj_val (y_pickt (fe_t rfl) (fe_t rfl)) ?_)
        refine tl_step rfl (oj_val (y_pickf (fe_t rfl) (fe_t rfl)) ?_)
        refine tl_nil ?_
        refine tx_then ?_
        refine tr_condp (fe_t rfl) (fun hq7 => ?_) (fun hq8 => ?_)
        · refine tr_seq ?_
          refine tr_region ?_
          refine tl_step rfl (oj_val (y_assign fe_c) ?_)
          refine tl_step rfl (oj_val (y_assign fe_c) ?_)
          refine tl_nil ?_
          refine tx_then ?_
          refine tr_ret ?_
          refine tx_then_ret ?_
          refine tx_ret (res2 Tryd.results43 (rok_t rfl) (rok_t rfl)) (fun w' hS => ?_)
          exact ⟨(0, false), ⟨num_head (.inr (.inr ⟨by omega, by omega, by omega⟩)), fun h => by cases h⟩, rfl, hS.pick [] _ rfl (by decide)⟩
        · refine tr_skip ?_
          refine tx_then ?_
          refine tr_seq ?_
          refine tr_region ?_
          refine tl_step rfl (oj_val (y_assign fe_c) ?_)
          refine tl_nil ?_
          refine tx_then ?_
          refine tr_seq ?_
          refine tr_seq ?_
          refine tr_region ?_
          refine tl_step rfl (oj_val (y_move (fe_t rfl)) ?_)
          refine tl_step rfl (oj_sbytes Tryd.underlying9 Tryd.underlying96 Tryd.underlying5 (fe_t rfl) (fun g_by1 c_by1 => ?_))
          refine tl_step rfl (oj_val (y_len Tryd.underlying96 (fe_t rfl)) ?_)
          refine tl_step rfl (oj_val (y_move fe_c) ?_)
          refine tl_nil ?_
          refine tx_then ?_
          refine tr_block ?_
          refine tr_loop1 [2, 3, 4, 6, 27, 28, 29, 30, 31, 32, 33, 34, 35, 36, 37, 38, 39, 40, 41, 42, 43] (fun (i : Nat) => [(27, .int .i64 (i : Int)), (4, .int .i64 ((val (l.take i) : Nat) : Int))]) 0 (fun (i : Nat) => []) (fun (i : Nat) => i ≤ l.length ∧ (l.take i).all dig = true) (fun (i : Nat) => l.length - i) (0) (cov_cons (by first | rfl | exact v_int (by omega) | exact v_bool (by simp [*])) (cov_cons (by first | rfl | exact v_int (by omega) | exact v_bool (by simp [*])) (cov_nil))) (fun w h => h) ?_ ?_
          · try dsimp only
            exact ⟨by omega, rfl⟩
          intro i hp
          obtain ⟨hi, hd⟩ := hp
          refine tr_seq ?_
          refine tr_region ?_
          refine tl_step rfl (oj_val (y_lss (fe_t rfl) (fe_t rfl)) ?_)
          refine tl_nil ?_
          refine tx_then ?_
          refine tr_seq ?_
          refine tr_condp (fe_t rfl) (fun hq9 => ?_) (fun hq10 => ?_)
          · refine tr_skip ?_
            refine tx_then ?_
            refine tr_seq ?_
            refine tr_block ?_
            refine tr_seq ?_
            refine tr_region ?_
            refine tl_step rfl (oj_val (y_index Tryd.underlying96 Tryd.sizeOf5 (fe_t rfl) (fe_t rfl) (rdl_rdo 0 rfl) (by rw [bC_len, Nat.mul_one]) (by decide) (by omega) (Nat.mul_one _)) ?_)
            refine tl_step rfl (oj_val (y_ld Tryd.isAgg5 (fe_t rfl) (rdl_rdo 0 rfl) (bC_get (by omega))) ?_)
            refine tl_step rfl (oj_val (y_assign (fe_t rfl)) ?_)
            refine tl_nil ?_
            refine tx_then ?_
            refine tr_seq ?_
            refine tr_seq ?_
            refine tr_region ?_
            refine tl_step rfl (oj_val (y_move (fe_t rfl)) ?_)
            refine tl_step rfl (oj_val (y_lss (fe_t rfl) fe_c) ?_)
            refine tl_step rfl (oj_val (y_move (fe_t rfl)) ?_)
            refine tl_splitp (d := 33) rfl (fun hq11 => ?_) (fun hq12 => ?_)
            · refine tl_skip rfl rfl rfl rfl ?_
              refine tl_skip rfl rfl rfl rfl ?_
              refine tl_step rfl (oj_val (y_pickt (fe_t rfl) fe_c) ?_)
              refine tl_nil ?_
              refine tx_then ?_
              refine tr_condt (fe_t rfl) ?_
              refine tr_seq ?_
              refine tr_region ?_
              refine tl_step rfl (oj_val (y_assign fe_c) ?_)
              refine tl_step rfl (oj_val (y_assign fe_c) ?_)
              refine tl_nil ?_
              refine tx_then ?_
              refine tr_ret ?_
              refine tx_then_ret ?_
              refine tx_in_ret ?_
              refine tx_then_ret ?_
              refine tx_then_ret ?_
              refine tx_in_ret ?_
              refine tx_then_ret ?_
              refine tx_ret (res2 Tryd.results43 (rok_t rfl) (rok_t rfl)) (fun w' hS => ?_)
              exact ⟨(0, false), ⟨num_bad (i := i) (by omega) (by omega), fun h => by cases h⟩, rfl, hS.pick [] _ rfl (by decide)⟩
            · refine tl_want rfl rfl rfl (oj_val (y_move (fe_t rfl)) ?_)
              refine tl_want rfl rfl rfl (oj_val (y_gtr (fe_t rfl) fe_c) ?_)
              refine tl_step rfl (oj_val (y_pickf (fe_t rfl) (fe_t rfl)) ?_)
              refine tl_nil ?_
              refine tx_then ?_
              refine tr_condp (fe_t rfl) (fun hq13 => ?_) (fun hq14 => ?_)
              · refine tr_seq ?_
                refine tr_region ?_
                refine tl_step rfl (oj_val (y_assign fe_c) ?_)
                refine tl_step rfl (oj_val (y_assign fe_c) ?_)
                refine tl_nil ?_
                refine tx_then ?_
                refine tr_ret ?_
                refine tx_then_ret ?_
                refine tx_in_ret ?_
                refine tx_then_ret ?_
                refine tx_then_ret ?_
                refine tx_in_ret ?_
                refine tx_then_ret ?_
                refine tx_ret (res2 Tryd.results43 (rok_t rfl) (rok_t rfl)) (fun w' hS => ?_)
                exact ⟨(0, false), ⟨num_bad (i := i) (by omega) (by omega), fun h => by cases h⟩, rfl, hS.pick [] _ rfl (by decide)⟩
              · refine tr_skip ?_
                refine tx_then ?_
                have hvs := val_small hd (by rw [List.length_take]; omega)
                have hvn := val_snoc (l.take i) l[i]
                rw [← take_snoc (show i < l.length by omega)] at hvn
                refine tr_region ?_
                refine tl_step rfl (oj_val (y_move (fe_t rfl)) ?_)
                refine tl_step rfl (oj_val (y_mul fe_c (fe_t rfl) (by omega)) ?_)
                refine tl_step rfl (oj_val (y_move (fe_t rfl)) ?_)
                refine tl_step rfl (oj_val (y_subq (c := (l[i].toNat : Int) - 48) (fe_t rfl) fe_c (IntWalk.u8_in _ (by omega))) ?_)
                refine tl_step rfl (oj_val (y_convi Tryd.underlying5 Tryd.underlying3 (fe_t rfl) (IntWalk.i64_in _ (by omega))) ?_)
                refine tl_step rfl (oj_val (y_add (fe_t rfl) (fe_t rfl) (by omega)) ?_)
                refine tl_step rfl (oj_val (y_assign (fe_t rfl)) ?_)
                refine tl_nil ?_
                refine tx_in ?_
                refine tx_then ?_
                refine tr_region ?_
                refine tl_step rfl (oj_val (y_inc (fe_t rfl) fe_c (by omega)) ?_)
                refine tl_step rfl (oj_val (y_move (fe_t rfl)) ?_)
                refine tl_nil ?_
                apply tx_back1 (i + 1)
                · exact (cov_cons (by first | rfl | exact v_int (by omega) | exact v_bool (by simp [*])) (cov_cons (by first | rfl | exact v_int (by omega) | exact v_bool (by simp [*])) (cov_nil)))
                · repeat (first | exact over_nil | refine over_put rfl ?_ | refine over_drop rfl ?_)
                · exact fun w h => h.pick [0] _ rfl (by decide)
                · refine ⟨⟨by omega, all_next (by omega) hd (by omega) (by omega)⟩, by omega⟩
          · refine tr_exit ?_
            refine tx_then_exit ?_
            refine tx_then_exit ?_
            refine tx_in_exit ?_
            refine tx_then ?_
            refine tr_seq ?_
            refine tr_region ?_
            refine tl_step rfl (oj_val (y_move (fe_t rfl)) ?_)
            refine tl_step rfl (oj_val (y_move (fe_t rfl)) ?_)
            refine tl_step rfl (oj_val (y_leq (fe_t rfl) fe_c) ?_)
            refine tl_step rfl (oj_val (y_assign (fe_t rfl)) ?_)
            refine tl_step rfl (oj_val (y_assign (fe_t rfl)) ?_)
            refine tl_nil ?_
            refine tx_then ?_
            refine tr_ret ?_
            refine tx_ret (res2 Tryd.results43 (rok_t rfl) (rok_t rfl)) (fun w' hS => ?_)
            obtain rfl : i = l.length := by omega
            rw [List.take_length] at hd
            refine ⟨((val (l.take l.length) : Nat), _), ⟨?_, fun _ => by dsimp only; rw [List.take_length]⟩, rfl, hS.pick [] _ rfl (by decide)⟩
            rw [List.take_length]
            exact num_end ‹¬ l = []› (by omega) (fun h e => by omega) hd
      · refine tl_skip rfl rfl rfl rfl ?_
        refine tl_skip rfl rfl rfl rfl ?_
        refine tl_skip rfl rfl rfl rfl ?_
        refine tl_want rfl rfl rfl (oj_val (y_pickf (fe_t rfl) fe_c) ?_)
        refine tl_step rfl (oj_val (y_pickf (fe_t rfl) (fe_t rfl)) ?_)
        refine tl_nil ?_
        refine tx_then ?_
        refine tr_condf (fe_t rfl) ?_
        refine tr_skip ?_
        refine tx_then ?_
        refine tr_seq ?_
        refine tr_region ?_
        refine tl_step rfl (oj_val (y_assign fe_c) ?_)
        refine tl_nil ?_
        refine tx_then ?_
        refine tr_seq ?_
        refine tr_seq ?_
        refine tr_region ?_
        refine tl_step rfl (oj_val (y_move (fe_t rfl)) ?_)
        refine tl_step rfl (oj_sbytes Tryd.underlying9 Tryd.underlying96 Tryd.underlying5 (fe_t rfl) (fun g_by2 c_by2 => ?_))
        refine tl_step rfl (oj_val (y_len Tryd.underlying96 (fe_t rfl)) ?_)
        refine tl_step rfl (oj_val (y_move fe_c) ?_)
        refine tl_nil ?_
        refine tx_then ?_
        refine tr_block ?_
        refine tr_loop1 [2, 3, 4, 6, 27, 28, 29, 30, 31, 32, 33, 34, 35, 36, 37, 38, 39, 40, 41, 42, 43] (fun (i : Nat) => [(27, .int .i64 (i : Int)), (4, .int .i64 ((val (l.take i) : Nat) : Int))]) 0 (fun (i : Nat) => []) (fun (i : Nat) => i ≤ l.length ∧ (l.take i).all dig = true) (fun (i : Nat) => l.length - i) (0) (cov_cons (by first | rfl | exact v_int (by omega) | exact v_bool (by simp [*])) (cov_cons (by first | rfl | exact v_int (by omega) | exact v_bool (by simp [*])) (cov_nil))) (fun w h => h) ?_ ?_
        · try dsimp only
          exact ⟨by omega, rfl⟩
        intro i hp
        obtain ⟨hi, hd⟩ := hp
        refine tr_seq ?_
        refine tr_region ?_
        refine tl_step rfl (oj_val (y_lss (fe_t rfl) (fe_t rfl)) ?_)
        refine tl_nil ?_
        refine tx_then ?_
        refine tr_seq ?_
        refine tr_condp (fe_t rfl) (fun hq15 => ?_) (fun hq16 => ?_)
        · refine tr_skip ?_
          refine tx_then ?_
          refine tr_seq ?_
          refine tr_block ?_
          refine tr_seq ?_
          refine tr_region ?_
          refine tl_step rfl (oj_val (y_index Tryd.underlying96 Tryd.sizeOf5 (fe_t rfl) (fe_t rfl) (rdl_rdo 0 rfl) (by rw [bC_len, Nat.mul_one]) (by decide) (by omega) (Nat.mul_one _)) ?_)
          refine tl_step rfl (oj_val (y_ld Tryd.isAgg5 (fe_t rfl) (rdl_rdo 0 rfl) (bC_get (by omega))) ?_)
          refine tl_step rfl (oj_val (y_assign (fe_t rfl)) ?_)
          refine tl_nil ?_
          refine tx_then ?_
          refine tr_seq ?_
          refine tr_seq ?_
          refine tr_region ?_
          refine tl_step rfl (oj_val (y_move (fe_t rfl)) ?_)
          refine tl_step rfl (oj_val (y_lss (fe_t rfl) fe_c) ?_)
          refine tl_step rfl (oj_val (y_move (fe_t rfl)) ?_)
          refine tl_splitp (d := 33) rfl (fun hq17 => ?_) (fun hq18 => ?_)
          · refine tl_skip rfl rfl rfl rfl ?_
            refine tl_skip rfl rfl rfl rfl ?_
            refine tl_step rfl (oj_val (y_pickt (fe_t rfl) fe_c) ?_)
            refine tl_nil ?_
            refine tx_then ?_
            refine tr_condt (fe_t rfl) ?_
            refine tr_seq ?_
            refine tr_region ?_
            refine tl_step rfl (oj_val (y_assign fe_c) ?_)
            refine tl_step rfl (oj_val (y_assign fe_c) ?_)
            refine tl_nil ?_
            refine tx_then ?_
            refine tr_ret ?_
            refine tx_then_ret ?_
            refine tx_in_ret ?_
            refine tx_then_ret ?_
            refine tx_then_ret ?_
            refine tx_in_ret ?_
            refine tx_then_ret ?_
            refine tx_ret (res2 Tryd.results43 (rok_t rfl) (rok_t rfl)) (fun w' hS => ?_)
            exact ⟨(0, false), ⟨num_bad (i := i) (by omega) (by omega), fun h => by cases h⟩, rfl, hS.pick [] _ rfl (by decide)⟩
          · refine tl_want rfl rfl rfl (oj_val (y_move (fe_t rfl)) ?_)
            refine tl_want rfl rfl rfl (oj_val (y_gtr (fe_t rfl) fe_c) ?_)
            refine tl_step rfl (oj_val (y_pickf (fe_t rfl) (fe_t rfl)) ?_)
            refine tl_nil ?_
            refine tx_then ?_
            refine tr_condp (fe_t rfl) (fun hq19 => ?_) (fun hq20 => ?_)
            · refine tr_seq ?_
              refine tr_region ?_
              refine tl_step rfl (oj_val (y_assign fe_c) ?_)
              refine tl_step rfl (oj_val (y_assign fe_c) ?_)
              refine tl_nil ?_
              refine tx_then ?_
              refine tr_ret ?_
              refine tx_then_ret ?_
              refine tx_in_ret ?_
              refine tx_then_ret ?_
              refine tx_then_ret ?_
              refine tx_in_ret ?_
              refine tx_then_ret ?_
              refine tx_ret (res2 Tryd.results43 (rok_t rfl) (rok_t rfl)) (fun w' hS => ?_)
              exact ⟨(0, false), ⟨num_bad (i := i) (by omega) (by omega), fun h => by cases h⟩, rfl, hS.pick [] _ rfl (by decide)⟩
            · refine tr_skip ?_
              refine tx_then ?_
              have hvs := val_small hd (by rw [List.length_take]; omega)
              have hvn := val_snoc (l.take i) l[i]
              rw [← take_snoc (show i < l.length by omega)] at hvn
              refine tr_region ?_
              refine tl_step rfl (oj_val (y_move (fe_t rfl)) ?_)
              refine tl_step rfl (oj_val (y_mul fe_c (fe_t rfl) (by omega)) ?_)
              refine tl_step rfl (oj_val (y_move (fe_t rfl)) ?_)
              refine tl_step rfl (oj_val (y_subq (c := (l[i].toNat : Int) - 48) (fe_t rfl) fe_c (IntWalk.u8_in _ (by omega))) ?_)
              refine tl_step rfl (oj_val (y_convi Tryd.underlying5 Tryd.underlying3 (fe_t rfl) (IntWalk.i64_in _ (by omega))) ?_)
              refine tl_step rfl (oj_val (y_add (fe_t rfl) (fe_t rfl) (by omega)) ?_)
              refine tl_step rfl (oj_val (y_assign (fe_t rfl)) ?_)
              refine tl_nil ?_
              refine tx_in ?_
              refine tx_then ?_
              refine tr_region ?_
              refine tl_step rfl (oj_val (y_inc (fe_t rfl) fe_c (by omega)) ?_)
              refine tl_step rfl (oj_val (y_move (fe_t rfl)) ?_)
              refine tl_nil ?_
              apply tx_back1 (i + 1)
              · exact (cov_cons (by first | rfl | exact v_int (by omega) | exact v_bool (by simp [*])) (cov_cons (by first | rfl | exact v_int (by omega) | exact v_bool (by simp [*])) (cov_nil)))
              · repeat (first | exact over_nil | refine over_put rfl ?_ | refine over_drop rfl ?_)
              · exact fun w h => h.pick [0] _ rfl (by decide)
              · refine ⟨⟨by omega, all_next (by omega) hd (by omega) (by omega)⟩, by omega⟩
        · refine tr_exit ?_
          refine tx_then_exit ?_
          refine tx_then_exit ?_
          refine tx_in_exit ?_
          refine tx_then ?_
          refine tr_seq ?_
          refine tr_region ?_
          refine tl_step rfl (oj_val (y_move (fe_t rfl)) ?_)
          refine tl_step rfl (oj_val (y_move (fe_t rfl)) ?_)
          refine tl_step rfl (oj_val (y_leq (fe_t rfl) fe_c) ?_)
          refine tl_step rfl (oj_val (y_assign (fe_t rfl)) ?_)
          refine tl_step rfl (oj_val (y_assign (fe_t rfl)) ?_)
          refine tl_nil ?_
          refine tx_then ?_
          refine tr_ret ?_
          refine tx_ret (res2 Tryd.results43 (rok_t rfl) (rok_t rfl)) (fun w' hS => ?_)
          obtain rfl : i = l.length := by omega
          rw [List.take_length] at hd
          refine ⟨((val (l.take l.length) : Nat), _), ⟨?_, fun _ => by dsimp only; rw [List.take_length]⟩, rfl, hS.pick [] _ rfl (by decide)⟩
          rw [List.take_length]
          exact num_end ‹¬ l = []› (by omega) (fun h e => by omega) hd

end Go.Proofs.YtfcpmcdlgkfolaaDoor.Bn
