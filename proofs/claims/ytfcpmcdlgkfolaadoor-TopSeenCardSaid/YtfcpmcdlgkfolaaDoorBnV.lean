/- Walks: a number, digit by digit. -/
import Derived.Test.YtfcpmcdlgkfolaaDoorBnD
import Derived.Test.YtfcpmcdlgkfolaaDoorEV
namespace Go.Proofs.YtfcpmcdlgkfolaaDoor.Bn
open Go.RowKit Go.Lib Go.Proofs.YtfcpmcdlgkfolaaDoor.E

set_option maxRecDepth 100000 in
set_option maxHeartbeats 2000000 in
theorem znumberE (l : List UInt8) (hl : l.length < 4294967281) (w : World) :
    Calls Tryd.prog 43 #[str l] w fun e w' => ∃ q : Int × Bool, (q.2 = okNum l ∧ (q.2 = true → q.1 = (val l : Int))) ∧ e = .returned (.tuple #[(.int .i64 q.1), .bool q.2]) ∧ St w w' [] := by
  refine calls_tr Tryd.func43 Tryd.ntmps43 rfl rfl (St.refl _) ?_
  refine tr_seq ?_
  refine tr_region ?_
  refine tl_step rfl (oj_val (y_assign fe_c) ?_)
  refine tl_step rfl (oj_val (y_assign fe_c) ?_)
  refine tl_nil ?_
  refine tx_then ?_
  refine tr_seq ?_
  refine tr_seq ?_
  refine tr_region ?_
  refine tl_step rfl (oj_val (y_move (fe_t rfl)) ?_)
  refine tl_step rfl (oj_val (y_eqs (fe_t rfl) fe_c) ?_)
  refine tl_step rfl (oj_val (y_move (fe_t rfl)) ?_)
  refine tl_splitp (d := 9) rfl (fun hq1 => ?_) (fun hq2 => ?_)
  · refine tl_skip rfl rfl rfl rfl ?_
    refine tl_skip rfl rfl rfl rfl ?_
    refine tl_skip rfl rfl rfl rfl ?_
    refine tl_step rfl (oj_val (y_pickt (fe_t rfl) fe_c) ?_)
    refine tl_step rfl (oj_val (y_move (fe_t rfl)) ?_)
    refine tl_skip rfl rfl rfl rfl ?_
    refine tl_skip rfl rfl rfl rfl ?_
    refine tl_skip rfl rfl rfl rfl ?_
    refine tl_skip rfl rfl rfl rfl ?_
    refine tl_skip rfl rfl rfl rfl ?_
    refine tl_skip rfl rfl rfl rfl ?_
    refine tl_skip rfl rfl rfl rfl ?_
    refine tl_skip rfl rfl rfl rfl ?_
    refine tl_step rfl (oj_val (y_pickt (fe_t rfl) fe_c) ?_)
    refine tl_nil ?_
    refine tx_then ?_
    refine tr_condt (fe_t rfl) ?_
    refine tr_seq ?_
    refine tr_region ?_
    refine tl_step rfl (oj_val (y_assign fe_c) ?_)
    refine tl_step rfl (oj_val (y_assign fe_c) ?_)
    refine tl_nil ?_
    refine tx_then ?_
    refine tr_ret ?_
    refine tx_then_ret ?_
    refine tx_ret (res2 Tryd.results43 (rok_t rfl) (rok_t rfl)) (fun w' hS => ?_)
    exact ⟨(0, false), ⟨num_head (.inl ‹l = []›), fun h => by cases h⟩, rfl, hS.pick [] _ rfl (by decide)⟩
  · refine tl_want rfl rfl rfl (oj_val (y_move (fe_t rfl)) ?_)
    refine tl_want rfl rfl rfl (oj_val (y_slen Tryd.underlying9 (fe_t rfl)) ?_)
    refine tl_want rfl rfl rfl (oj_val (y_gtr (fe_t rfl) fe_c) ?_)
    refine tl_step rfl (oj_val (y_pickf (fe_t rfl) (fe_t rfl)) ?_)
    refine tl_step rfl (oj_val (y_move (fe_t rfl)) ?_)
    refine tl_splitp (d := 14) rfl (fun hq3 => ?_) (fun hq4 => ?_)
    · refine tl_skip rfl rfl rfl rfl ?_
      refine tl_skip rfl rfl rfl rfl ?_
      refine tl_skip rfl rfl rfl rfl ?_
      refine tl_skip rfl rfl rfl rfl ?_
      refine tl_skip rfl rfl rfl rfl ?_
      refine tl_skip rfl rfl rfl rfl ?_
      refine tl_skip rfl rfl rfl rfl ?_
      refine tl_skip rfl rfl rfl rfl ?_
      refine tl_step rfl (oj_val (y_pickt (fe_t rfl) fe_c) ?_)
      refine tl_nil ?_
      refine tx_then ?_
      refine tr_condt (fe_t rfl) ?_
      refine tr_seq ?_
      refine tr_region ?_
      refine tl_step rfl (oj_val (y_assign fe_c) ?_)
      refine tl_step rfl (oj_val (y_assign fe_c) ?_)
      refine tl_nil ?_
      refine tx_then ?_
      refine tr_ret ?_
      refine tx_then_ret ?_
      refine tx_ret (res2 Tryd.results43 (rok_t rfl) (rok_t rfl)) (fun w' hS => ?_)
      exact ⟨(0, false), ⟨num_head (.inr (.inl (by omega))), fun h => by cases h⟩, rfl, hS.pick [] _ rfl (by decide)⟩
    · refine tl_want rfl rfl rfl (oj_val (y_move (fe_t rfl)) ?_)
      refine tl_want rfl rfl rfl (oj_val (y_sidx (i := 0) Tryd.underlying9 (fe_t rfl) fe_c (List.length_pos_iff.2 ‹¬ l = []›)) ?_)
      refine tl_want rfl rfl rfl (oj_val (y_eq (fe_t rfl) fe_c) ?_)
      refine tl_want rfl rfl rfl (oj_val (y_move (fe_t rfl)) ?_)
      refine tl_splitp (d := 18) rfl (fun hq5 => ?_) (fun hq6 => ?_)
      · refine tl_want rfl rfl rfl (oj_val (y_move (fe_t rfl)) ?_)
        refine tl_want rfl rfl rfl (oj_val (y_slen Tryd.underlying9 (fe_t rfl)) ?_)
        refine tl_want rfl rfl rfl (oj_val (y_gtr (fe_t rfl) fe_c) ?_)
        refine tl_want rfl rfl rfl (oj_val (y_pickt (fe_t rfl) (fe_t rfl)) ?_)
        refine tl_step rfl (oj_val (y_pickf (fe_t rfl) (fe_t rfl)) ?_)
        refine tl_nil ?_
        refine tx_then ?_
        refine tr_condp (fe_t rfl) (fun hq7 => ?_) (fun hq8 => ?_)
        · refine tr_seq ?_
          refine tr_region ?_
          refine tl_step rfl (oj_val (y_assign fe_c) ?_)
          refine tl_step rfl (oj_val (y_assign fe_c) ?_)
          refine tl_nil ?_
          refine tx_then ?_
          refine tr_ret ?_
          refine tx_then_ret ?_
          refine tx_ret (res2 Tryd.results43 (rok_t rfl) (rok_t rfl)) (fun w' hS => ?_)
          exact ⟨(0, false), ⟨num_head (.inr (.inr ⟨by omega, by omega, by omega⟩)), fun h => by cases h⟩, rfl, hS.pick [] _ rfl (by decide)⟩
        · refine tr_skip ?_
          refine tx_then ?_
          refine tr_seq ?_
          refine tr_region ?_
          refine tl_step rfl (oj_val (y_assign fe_c) ?_)
          refine tl_nil ?_
          refine tx_then ?_
          refine tr_seq ?_
          refine tr_seq ?_
          refine tr_region ?_
          refine tl_step rfl (oj_val (y_move (fe_t rfl)) ?_)
          refine tl_step rfl (oj_sbytes Tryd.underlying9 Tryd.underlying96 Tryd.underlying5 (fe_t rfl) (fun g_by1 c_by1 => ?_))
          refine tl_step rfl (oj_val (y_len Tryd.underlying96 (fe_t rfl)) ?_)
          refine tl_step rfl (oj_val (y_move fe_c) ?_)
          refine tl_nil ?_
          refine tx_then ?_
          refine tr_block ?_
          refine tr_loop1 [2, 3, 4, 6, 27, 28, 29, 30, 31, 32, 33, 34, 35, 36, 37, 38, 39, 40, 41, 42, 43] (fun (i : Nat) => [(27, .int .i64 (i : Int)), (4, .int .i64 ((val (l.take i) : Nat) : Int))]) 0 (fun (i : Nat) => []) (fun (i : Nat) => i ≤ l.length ∧ (l.take i).all dig = true) (fun (i : Nat) => l.length - i) (0) (cov_cons (by first | rfl | exact v_int (by omega) | exact v_bool (by simp [*])) (cov_cons (by first | rfl | exact v_int (by omega) | exact v_bool (by simp [*])) (cov_nil))) (fun w h => h) ?_ ?_
          · try dsimp only
            exact ⟨by omega, rfl⟩
          intro i hp
          obtain ⟨hi, hd⟩ := hp
          refine tr_seq ?_
          refine tr_region ?_
          refine tl_step rfl (oj_val (y_lss (fe_t rfl) (fe_t rfl)) ?_)
          refine tl_nil ?_
          refine tx_then ?_
          refine tr_seq ?_
          refine tr_condp (fe_t rfl) (fun hq9 => ?_) (fun hq10 => ?_)
          · refine tr_skip ?_
            refine tx_then ?_
            refine tr_seq ?_
            refine tr_block ?_
            refine tr_seq ?_
            refine tr_region ?_
            refine tl_step rfl (oj_val (y_index Tryd.underlying96 Tryd.sizeOf5 (fe_t rfl) (fe_t rfl) (rdl_rdo 0 rfl) (by rw [bC_len, Nat.mul_one]) (by decide) (by omega) (Nat.mul_one _)) ?_)
            refine tl_step rfl (oj_val (y_ld Tryd.isAgg5 (fe_t rfl) (rdl_rdo 0 rfl) (bC_get (by omega))) ?_)
            refine tl_step rfl (oj_val (y_assign (fe_t rfl)) ?_)
            refine tl_nil ?_
            refine tx_then ?_
            refine tr_seq ?_
            refine tr_seq ?_
            refine tr_region ?_
            refine tl_step rfl (oj_val (y_move (fe_t rfl)) ?_)
            refine tl_step rfl (oj_val (y_lss (fe_t rfl) fe_c) ?_)
            refine tl_step rfl (oj_val (y_move (fe_t rfl)) ?_)
            refine tl_splitp (d := 33) rfl (fun hq11 => ?_) (fun hq12 => ?_)
            · refine tl_skip rfl rfl rfl rfl ?_
              refine tl_skip rfl rfl rfl rfl ?_
              refine tl_step rfl (oj_val (y_pickt (fe_t rfl) fe_c) ?_)
              refine tl_nil ?_
              refine tx_then ?_
              refine tr_condt (fe_t rfl) ?_
              refine tr_seq ?_
              refine tr_region ?_
              refine tl_step rfl (oj_val (y_assign fe_c) ?_)
              refine tl_step rfl (oj_val (y_assign fe_c) ?_)
              refine tl_nil ?_
              refine tx_then ?_
              refine tr_ret ?_
              refine tx_then_ret ?_
              refine tx_in_ret ?_
              refine tx_then_ret ?_
              refine tx_then_ret ?_
              refine tx_in_ret ?_
              refine tx_then_ret ?_
              refine tx_ret (res2 Tryd.results43 (rok_t rfl) (rok_t rfl)) (fun w' hS => ?_)
              exact ⟨(0, false), ⟨num_bad (i := i) (by omega) (by omega), fun h => by cases h⟩, rfl, hS.pick [] _ rfl (by decide)⟩
            · refine tl_want rfl rfl rfl (oj_val (y_move (fe_t rfl)) ?_)
              refine tl_want rfl rfl rfl (oj_val (y_gtr (fe_t rfl) fe_c) ?_)
              refine tl_step rfl (oj_val (y_pickf (fe_t rfl) (fe_t rfl)) ?_)
              refine tl_nil ?_
              refine tx_then ?_
              refine tr_condp (fe_t rfl) (fun hq13 => ?_) (fun hq14 => ?_)
              · refine tr_seq ?_
                refine tr_region ?_
                refine tl_step rfl (oj_val (y_assign fe_c) ?_)
                refine tl_step rfl (oj_val (y_assign fe_c) ?_)
                refine tl_nil ?_
                refine tx_then ?_
                refine tr_ret ?_
                refine tx_then_ret ?_
                refine tx_in_ret ?_
                refine tx_then_ret ?_
                refine tx_then_ret ?_
                refine tx_in_ret ?_
                refine tx_then_ret ?_
                refine tx_ret (res2 Tryd.results43 (rok_t rfl) (rok_t rfl)) (fun w' hS => ?_)
                exact ⟨(0, false), ⟨num_bad (i := i) (by omega) (by omega), fun h => by cases h⟩, rfl, hS.pick [] _ rfl (by decide)⟩
              · refine tr_skip ?_
                refine tx_then ?_
                have hvs := val_small hd (by rw [List.length_take]; omega)
                have hvn := val_snoc (l.take i) l[i]
                rw [← take_snoc (show i < l.length by omega)] at hvn
                refine tr_region ?_
                refine tl_step rfl (oj_val (y_move (fe_t rfl)) ?_)
                refine tl_step rfl (oj_val (y_mul fe_c (fe_t rfl) (by omega)) ?_)
                refine tl_step rfl (oj_val (y_move (fe_t rfl)) ?_)
                refine tl_step rfl (oj_val (y_subq (c := (l[i].toNat : Int) - 48) (fe_t rfl) fe_c (IntWalk.u8_in _ (by omega))) ?_)
                refine tl_step rfl (oj_val (y_convi Tryd.underlying5 Tryd.underlying3 (fe_t rfl) (IntWalk.i64_in _ (by omega))) ?_)
                refine tl_step rfl (oj_val (y_add (fe_t rfl) (fe_t rfl) (by omega)) ?_)
                refine tl_step rfl (oj_val (y_assign (fe_t rfl)) ?_)
                refine tl_nil ?_
                refine tx_in ?_
                refine tx_then ?_
                refine tr_region ?_
                refine tl_step rfl (oj_val (y_inc (fe_t rfl) fe_c (by omega)) ?_)
                refine tl_step rfl (oj_val (y_move (fe_t rfl)) ?_)
                refine tl_nil ?_
                apply tx_back1 (i + 1)
                · exact (cov_cons (by first | rfl | exact v_int (by omega) | exact v_bool (by simp [*])) (cov_cons (by first | rfl | exact v_int (by omega) | exact v_bool (by simp [*])) (cov_nil)))
                · repeat (first | exact over_nil | refine over_put rfl ?_ | refine over_drop rfl ?_)
                · exact fun w h => h.pick [0] _ rfl (by decide)
                · refine ⟨⟨by omega, all_next (by omega) hd (by omega) (by omega)⟩, by omega⟩
          · refine tr_exit ?_
            refine tx_then_exit ?_
            refine tx_then_exit ?_
            refine tx_in_exit ?_
            refine tx_then ?_
            refine tr_seq ?_
            refine tr_region ?_
            refine tl_step rfl (oj_val (y_move (fe_t rfl)) ?_)
            refine tl_step rfl (oj_val (y_move (fe_t rfl)) ?_)
            refine tl_step rfl (oj_val (y_leq (fe_t rfl) fe_c) ?_)
            refine tl_step rfl (oj_val (y_assign (fe_t rfl)) ?_)
            refine tl_step rfl (oj_val (y_assign (fe_t rfl)) ?_)
            refine tl_nil ?_
            refine tx_then ?_
            refine tr_ret ?_
            refine tx_ret (res2 Tryd.results43 (rok_t rfl) (rok_t rfl)) (fun w' hS => ?_)
            obtain rfl : i = l.length := by omega
            rw [List.take_length] at hd
            refine ⟨((val (l.take l.length) : Nat), _), ⟨?_, fun _ => by dsimp only; rw [List.take_length]⟩, rfl, hS.pick [] _ rfl (by decide)⟩
            rw [List.take_length]
            exact num_end ‹¬ l = []› (by omega) (fun h e => by omega) hd
      · refine tl_skip rfl rfl rfl rfl ?_
        refine tl_skip rfl rfl rfl rfl ?_
        refine tl_skip rfl rfl rfl rfl ?_
        refine tl_want rfl rfl rfl (oj_val (y_pickf (fe_t rfl) fe_c) ?_)
        refine tl_step rfl (oj_val (y_pickf (fe_t rfl) (fe_t rfl)) ?_)
        refine tl_nil ?_
        refine tx_then ?_
        refine tr_condf (fe_t rfl) ?_
        refine tr_skip ?_
        refine tx_then ?_
        refine tr_seq ?_
        refine tr_region ?_
        refine tl_step rfl (oj_val (y_assign fe_c) ?_)
        refine tl_nil ?_
        refine tx_then ?_
        refine tr_seq ?_
        refine tr_seq ?_
        refine tr_region ?_
        refine tl_step rfl (oj_val (y_move (fe_t rfl)) ?_)
        refine tl_step rfl (oj_sbytes Tryd.underlying9 Tryd.underlying96 Tryd.underlying5 (fe_t rfl) (fun g_by2 c_by2 => ?_))
        refine tl_step rfl (oj_val (y_len Tryd.underlying96 (fe_t rfl)) ?_)
        refine tl_step rfl (oj_val (y_move fe_c) ?_)
        refine tl_nil ?_
        refine tx_then ?_
        refine tr_block ?_
        refine tr_loop1 [2, 3, 4, 6, 27, 28, 29, 30, 31, 32, 33, 34, 35, 36, 37, 38, 39, 40, 41, 42, 43] (fun (i : Nat) => [(27, .int .i64 (i : Int)), (4, .int .i64 ((val (l.take i) : Nat) : Int))]) 0 (fun (i : Nat) => []) (fun (i : Nat) => i ≤ l.length ∧ (l.take i).all dig = true) (fun (i : Nat) => l.length - i) (0) (cov_cons (by first | rfl | exact v_int (by omega) | exact v_bool (by simp [*])) (cov_cons (by first | rfl | exact v_int (by omega) | exact v_bool (by simp [*])) (cov_nil))) (fun w h => h) ?_ ?_
        · try dsimp only
          exact ⟨by omega, rfl⟩
        intro i hp
        obtain ⟨hi, hd⟩ := hp
        refine tr_seq ?_
        refine tr_region ?_
        refine tl_step rfl (oj_val (y_lss (fe_t rfl) (fe_t rfl)) ?_)
        refine tl_nil ?_
        refine tx_then ?_
        refine tr_seq ?_
        refine tr_condp (fe_t rfl) (fun hq15 => ?_) (fun hq16 => ?_)
        · refine tr_skip ?_
          refine tx_then ?_
          refine tr_seq ?_
          refine tr_block ?_
          refine tr_seq ?_
          refine tr_region ?_
          refine tl_step rfl (oj_val (y_index Tryd.underlying96 Tryd.sizeOf5 (fe_t rfl) (fe_t rfl) (rdl_rdo 0 rfl) (by rw [bC_len, Nat.mul_one]) (by decide) (by omega) (Nat.mul_one _)) ?_)
          refine tl_step rfl (oj_val (y_ld Tryd.isAgg5 (fe_t rfl) (rdl_rdo 0 rfl) (bC_get (by omega))) ?_)
          refine tl_step rfl (oj_val (y_assign (fe_t rfl)) ?_)
          refine tl_nil ?_
          refine tx_then ?_
          refine tr_seq ?_
          refine tr_seq ?_
          refine tr_region ?_
          refine tl_step rfl (oj_val (y_move (fe_t rfl)) ?_)
          refine tl_step rfl (oj_val (y_lss (fe_t rfl) fe_c) ?_)
          refine tl_step rfl (oj_val (y_move (fe_t rfl)) ?_)
          refine tl_splitp (d := 33) rfl (fun hq17 => ?_) (fun hq18 => ?_)
          · refine tl_skip rfl rfl rfl rfl ?_
            refine tl_skip rfl rfl rfl rfl ?_
            refine tl_step rfl (oj_val (y_pickt (fe_t rfl) fe_c) ?_)
            refine tl_nil ?_
            refine tx_then ?_
            refine tr_condt (fe_t rfl) ?_
            refine tr_seq ?_
            refine tr_region ?_
            refine tl_step rfl (oj_val (y_assign fe_c) ?_)
            refine tl_step rfl (oj_val (y_assign fe_c) ?_)
            refine tl_nil ?_
            refine tx_then ?_
            refine tr_ret ?_
            refine tx_then_ret ?_
            refine tx_in_ret ?_
            refine tx_then_ret ?_
            refine tx_then_ret ?_
            refine tx_in_ret ?_
            refine tx_then_ret ?_
            refine tx_ret (res2 Tryd.results43 (rok_t rfl) (rok_t rfl)) (fun w' hS => ?_)
            exact ⟨(0, false), ⟨num_bad (i := i) (by omega) (by omega), fun h => by cases h⟩, rfl, hS.pick [] _ rfl (by decide)⟩
          · refine tl_want rfl rfl rfl (oj_val (y_move (fe_t rfl)) ?_)
            refine tl_want rfl rfl rfl (oj_val (y_gtr (fe_t rfl) fe_c) ?_)
            refine tl_step rfl (oj_val (y_pickf (fe_t rfl) (fe_t rfl)) ?_)
            refine tl_nil ?_
            refine tx_then ?_
            refine tr_condp (fe_t rfl) (fun hq19 => ?_) (fun hq20 => ?_)
            · refine tr_seq ?_
              refine tr_region ?_
              refine tl_step rfl (oj_val (y_assign fe_c) ?_)
              refine tl_step rfl (oj_val (y_assign fe_c) ?_)
              refine tl_nil ?_
              refine tx_then ?_
              refine tr_ret ?_
              refine tx_then_ret ?_
              refine tx_in_ret ?_
              refine tx_then_ret ?_
              refine tx_then_ret ?_
              refine tx_in_ret ?_
              refine tx_then_ret ?_
              refine tx_ret (res2 Tryd.results43 (rok_t rfl) (rok_t rfl)) (fun w' hS => ?_)
              exact ⟨(0, false), ⟨num_bad (i := i) (by omega) (by omega), fun h => by cases h⟩, rfl, hS.pick [] _ rfl (by decide)⟩
            · refine tr_skip ?_
              refine tx_then ?_
              have hvs := val_small hd (by rw [List.length_take]; omega)
              have hvn := val_snoc (l.take i) l[i]
              rw [← take_snoc (show i < l.length by omega)] at hvn
              refine tr_region ?_
              refine tl_step rfl (oj_val (y_move (fe_t rfl)) ?_)
              refine tl_step rfl (oj_val (y_mul fe_c (fe_t rfl) (by omega)) ?_)
              refine tl_step rfl (oj_val (y_move (fe_t rfl)) ?_)
              refine tl_step rfl (oj_val (y_subq (c := (l[i].toNat : Int) - 48) (fe_t rfl) fe_c (IntWalk.u8_in _ (by omega))) ?_)
              refine tl_step rfl (oj_val (y_convi Tryd.underlying5 Tryd.underlying3 (fe_t rfl) (IntWalk.i64_in _ (by omega))) ?_)
              refine tl_step rfl (oj_val (y_add (fe_t rfl) (fe_t rfl) (by omega)) ?_)
              refine tl_step rfl (oj_val (y_assign (fe_t rfl)) ?_)
              refine tl_nil ?_
              refine tx_in ?_
              refine tx_then ?_
              refine tr_region ?_
              refine tl_step rfl (oj_val (y_inc (fe_t rfl) fe_c (by omega)) ?_)
              refine tl_step rfl (oj_val (y_move (fe_t rfl)) ?_)
              refine tl_nil ?_
              apply tx_back1 (i + 1)
              · exact (cov_cons (by first | rfl | exact v_int (by omega) | exact v_bool (by simp [*])) (cov_cons (by first | rfl | exact v_int (by omega) | exact v_bool (by simp [*])) (cov_nil)))
              · repeat (first | exact over_nil | refine over_put rfl ?_ | refine over_drop rfl ?_)
              · exact fun w h => h.pick [0] _ rfl (by decide)
              · refine ⟨⟨by omega, all_next (by omega) hd (by omega) (by omega)⟩, by omega⟩
        · refine tr_exit ?_
          refine tx_then_exit ?_
          refine tx_then_exit ?_
          refine tx_in_exit ?_
          refine tx_then ?_
          refine tr_seq ?_
          refine tr_region ?_
          refine tl_step rfl (oj_val (y_move (fe_t rfl)) ?_)
          refine tl_step rfl (oj_val (y_move (fe_t rfl)) ?_)
          refine tl_step rfl (oj_val (y_leq (fe_t rfl) fe_c) ?_)
          refine tl_step rfl (oj_val (y_assign (fe_t rfl)) ?_)
          refine tl_step rfl (oj_val (y_assign (fe_t rfl)) ?_)
          refine tl_nil ?_
          refine tx_then ?_
          refine tr_ret ?_
          refine tx_ret (res2 Tryd.results43 (rok_t rfl) (rok_t rfl)) (fun w' hS => ?_)
          obtain rfl : i = l.length := by omega
          rw [List.take_length] at hd
          refine ⟨((val (l.take l.length) : Nat), _), ⟨?_, fun _ => by dsimp only; rw [List.take_length]⟩, rfl, hS.pick [] _ rfl (by decide)⟩
          rw [List.take_length]
          exact num_end ‹¬ l = []› (by omega) (fun h e => by omega) hd

end Go.Proofs.YtfcpmcdlgkfolaaDoor.Bn

namespace Go.Proofs.YtfcpmcdlgkfolaaDoor.Bn
open Go.RowKit Go.Lib Go.Proofs.YtfcpmcdlgkfolaaDoor.E

set_option maxRecDepth 100000 in
set_option maxHeartbeats 2000000 in
theorem zwordsE (l : List UInt8) (hl : l.length ≤ 1000000000) (w : World) :
    Calls Tryd.prog 42 #[str l] w fun e w' => ∃ q : Vs, (q.n = (wds 32 l).length ∧ q.xs = (wds 32 l).map str) ∧ e = .returned (.slice q.A q.n q.c) ∧ St w w' [vec 9 1 (.slice q.A q.n q.c) q.n q.xs] := by
  refine calls_tr Tryd.func42 Tryd.ntmps42 rfl rfl (St.refl _) ?_
  refine tr_seq ?_
  refine tr_region ?_
  refine tl_step rfl (oj_val (y_assign fe_c) ?_)
  refine tl_nil ?_
  refine tx_then ?_
  refine tr_seq ?_
  refine tr_region ?_
  refine tl_step rfl (oj_slice1V Tryd.underlying32 Tryd.sizeOf9 Tryd.zeroValue9 fe_c rfl (fun g_wv => ?_))
  refine tl_step rfl (oj_val (y_assign (fe_t rfl)) ?_)
  refine tl_nil ?_
  refine tx_then ?_
  refine tr_seq ?_
  refine tr_seq ?_
  refine tr_region ?_
  refine tl_step rfl (oj_val (y_move (fe_t rfl)) ?_)
  refine tl_step rfl (oj_sbytes Tryd.underlying9 Tryd.underlying96 Tryd.underlying5 (fe_t rfl) (fun g_by1 c_by1 => ?_))
  refine tl_step rfl (oj_val (y_len Tryd.underlying96 (fe_t rfl)) ?_)
  refine tl_step rfl (oj_val (y_move fe_c) ?_)
  refine tl_nil ?_
  refine tx_then ?_
  refine tr_block ?_
  refine tr_loop2 [3, 5, 10, 11, 12, 13, 14, 15, 16, 17, 18, 19, 20, 21, 22, 23, 24, 25, 26, 27, 28, 29, 30] (fun (i : Nat) (z : Vs) => [(10, .int .i64 (i : Int)), (3, .slice z.A z.n z.c)]) 0 (fun (i : Nat) (z : Vs) => [(1, vec 9 1 (.slice z.A z.n z.c) z.n z.xs)]) (fun (i : Nat) (z : Vs) => i ≤ l.length ∧ z.n = (wds 32 (l.take i)).length ∧ z.xs = (wds 32 (l.take i)).map str) (fun (i : Nat) (z : Vs) => l.length - i) (0) (⟨_, _, _, _⟩ : Vs) (cov_cons (by first | rfl | exact v_int (by omega) | exact v_bool (by simp [*])) (cov_cons (by first | rfl | exact v_int (by omega) | exact v_bool (by simp [*])) (cov_nil))) (fun w h => h) ?_ ?_
  · try dsimp only
    exact ⟨by omega, rfl, rfl⟩
  intro i z hp
  obtain ⟨hi, hzn, hzx⟩ := hp
  refine tr_seq ?_
  refine tr_region ?_
  refine tl_step rfl (oj_val (y_lss (fe_t rfl) (fe_t rfl)) ?_)
  refine tl_nil ?_
  refine tx_then ?_
  refine tr_seq ?_
  refine tr_condp (fe_t rfl) (fun hq1 => ?_) (fun hq2 => ?_)
  · refine tr_skip ?_
    refine tx_then ?_
    refine tr_seq ?_
    refine tr_block ?_
    refine tr_seq ?_
    have hne := List.length_pos_iff.2 (wds_ne 32 (l.take i))
    have hwl := wds_len 32 (l.take i)
    rw [List.length_take] at hwl
    refine tr_region ?_
    refine tl_step rfl (oj_val (y_index Tryd.underlying96 Tryd.sizeOf5 (fe_t rfl) (fe_t rfl) (rdl_rdo 0 rfl) (by rw [bC_len, Nat.mul_one]) (by decide) (by omega) (Nat.mul_one _)) ?_)
    refine tl_step rfl (oj_val (y_ld Tryd.isAgg5 (fe_t rfl) (rdl_rdo 0 rfl) (bC_get (by omega))) ?_)
    refine tl_step rfl (oj_val (y_assign (fe_t rfl)) ?_)
    refine tl_nil ?_
    refine tx_then ?_
    refine tr_seq ?_
    refine tr_region ?_
    refine tl_step rfl (oj_val (y_move (fe_t rfl)) ?_)
    refine tl_step rfl (oj_val (y_eq (fe_t rfl) fe_c) ?_)
    refine tl_nil ?_
    refine tx_then ?_
    refine tr_condp (fe_t rfl) (fun hq3 => ?_) (fun hq4 => ?_)
    · refine tr_region ?_
      refine tl_step rfl (oj_val (y_move (fe_t rfl)) ?_)
      refine tl_step rfl (oj_slice1 Tryd.underlying32 Tryd.sizeOf9 Tryd.zeroValue9 fe_c (by decide) rfl (fun b1 => ?_))
      refine tl_step rfl (oj_append (i := 2) (s := 1) (z := (.string (ByteArray.mk #[]))) (bytes := 16) Tryd.underlying32 (by kernel_rfl) (fe_t rfl) (fe_t rfl) rfl (rdl_blk 0 rfl) rfl (by decide) (by first | exact oneI | exact oneF (fun _ => rfl) | exact fun u hu => List.all_eq_true.1 (show List.all _ (fun x => x.oneCell') = true from rfl) u hu | (intro u hu; revert u hu; simp [Value.oneCell'])) (by decide) ⟨by omega, by decide⟩ (fun Aa1 ca1 hca1 => ?_))
      refine tl_step rfl (oj_val (y_assign (fe_t rfl)) ?_)
      refine tl_nil ?_
      refine tx_in ?_
      refine tx_then ?_
      refine tr_region ?_
      refine tl_step rfl (oj_val (y_inc (fe_t rfl) fe_c (by omega)) ?_)
      refine tl_step rfl (oj_val (y_move (fe_t rfl)) ?_)
      refine tl_nil ?_
      apply tx_back2 (i + 1) ((⟨_, _, _, _⟩ : Vs))
      · exact (cov_cons (by first | rfl | exact v_int (by omega) | exact v_bool (by simp [*])) (cov_cons (by first | rfl | exact v_int (by omega) | exact v_bool (by simp [*])) (cov_nil)))
      · repeat (first | exact over_nil | refine over_put rfl ?_ | refine over_drop rfl ?_)
      · exact fun w h => h.pick [1, 2] _ rfl (by decide)
      · have hb : l[i] = 32 := UInt8.toNat_inj.1 (show l[i].toNat = (32 : UInt8).toNat by simp; omega)
        rw [wds_next (show i < l.length by omega), wadd_sep hb]
        exact ⟨⟨by omega, by simp [hzn], by simp [hzx]; rfl⟩, by omega⟩
    · refine tb_draw 11 (sel _ [0]) (fun w h => h.sel _ rfl (by decide)) rfl ?_
      refine tb_float (i := 0) rfl (by kernel_rfl) rfl (wants_none rfl) (yq_of (y_move (fe_t rfl))) ?_
      refine tb_float (i := 1) rfl (by kernel_rfl) rfl (wants_none rfl) (yq_of (y_move (fe_t rfl))) ?_
      refine tb_float (i := 2) rfl (by kernel_rfl) rfl (wants_none rfl) (yq_of (y_len Tryd.underlying32 (fe_t rfl))) ?_
      refine tb_float (i := 3) rfl (by kernel_rfl) rfl (wants_none rfl) (yq_of (y_subq (c := ((z.n - 1 : Nat) : Int)) (fe_t rfl) fe_c (by rw [IntWalk.i64_in _ (by omega)]; omega))) ?_
      refine tb_float1 (i := 4) rfl (by kernel_rfl) (by kernel_rfl) rfl (wants_none rfl) (yq_of (y_index Tryd.underlying32 Tryd.sizeOf9 (fe_t rfl) (fe_t rfl) (rdl_vec 1 rfl) (by rw [hzx, List.length_map, hzn, Nat.mul_one]) (by decide) (by omega) (Nat.mul_one _))) ?_
      refine tb_float1 (i := 5) rfl (by kernel_rfl) (by kernel_rfl) rfl (wants_none rfl) (yq_of (y_ld Tryd.isAgg9 (fe_t rfl) (rdl_vec 1 rfl) (by rw [hzx, hzn]; exact getS (ws := wds 32 (l.take i)) (k := (wds 32 (l.take i)).length - 1) (by omega)))) ?_
      refine tb_float (i := 6) rfl (by kernel_rfl) rfl (wants_none rfl) (yq_of (y_move (fe_t rfl))) ?_
      refine tb_one1 (i := 7) rfl (by kernel_rfl) (by kernel_rfl) (wants_none rfl) (oj_slice1 Tryd.underlying96 Tryd.sizeOf5 Tryd.zeroValue5 (fe_t rfl) (by decide) rfl (fun b1 => ⟨fun w h => h.pick [1, 2] _ rfl (by decide), ?_⟩))
      refine tb_one1 (i := 8) rfl (by kernel_rfl) (by kernel_rfl) (wants_none rfl) (oj_val (y_b1 0 Tryd.underlying96 Tryd.underlying5 Tryd.underlying9 (fe_t rfl) rfl) (⟨fun w h => h.pick [1, 2] _ rfl (by decide), ?_⟩))
      refine tb_float (i := 9) rfl (by kernel_rfl) rfl (wants_none rfl) (yq_of (y_cat (fe_t rfl) (fe_t rfl) (by simp; have := wds_at (c := 32) (l := l.take i) ((wds 32 (l.take i)).length - 1); rw [List.length_take] at this; simp at this; omega))) ?_
      refine tb_float1 (i := 10) rfl (by kernel_rfl) (by kernel_rfl) rfl (wants_none rfl) (yq_of (y_index Tryd.underlying32 Tryd.sizeOf9 (fe_t rfl) (fe_t rfl) (rdl_vec 1 rfl) (by rw [hzx, List.length_map, hzn, Nat.mul_one]) (by decide) (by omega) (Nat.mul_one _))) ?_
      refine tb_one2 (i := 11) rfl (by kernel_rfl) (by kernel_rfl) (wants_none rfl) (oj_storeE1 (i := 2) Tryd.sizeOf9 (fe_t rfl) (fe_t rfl) rfl rfl rfl (by omega) (⟨fun w h => h.pick [1] _ rfl (by decide), ?_⟩))
      refine tb_done (by kernel_rfl) ?_
      refine tx_in ?_
      refine tx_then ?_
      refine tr_region ?_
      refine tl_step rfl (oj_val (y_inc (fe_t rfl) fe_c (by omega)) ?_)
      refine tl_step rfl (oj_val (y_move (fe_t rfl)) ?_)
      refine tl_nil ?_
      apply tx_back2 (i + 1) ((⟨z.A, z.n, z.c, z.xs.set (z.n - 1) (str ((wds 32 (l.take i)).getD ((wds 32 (l.take i)).length - 1) [] ++ [l[i]]))⟩ : Vs))
      · exact (cov_cons (by first | rfl | exact v_int (by omega) | exact v_bool (by simp [*])) (cov_cons (by first | rfl | exact v_int (by omega) | exact v_bool (by simp [*])) (cov_nil)))
      · repeat (first | exact over_nil | refine over_put rfl ?_ | refine over_drop rfl ?_)
      · exact fun w h => h.pick [1, 2] _ rfl (by decide)
      · have hb : ¬ l[i] = 32 := fun e => ‹¬ ((l[i].toNat : Nat) : Int) = 32› (by rw [e]; rfl)
        obtain ⟨h1, h2⟩ := wadd_byte (ws := wds 32 (l.take i)) hb
        rw [wds_next (show i < l.length by omega)]
        exact ⟨⟨by omega, by rw [h2]; exact hzn, by dsimp only; rw [h1, ← hzx, hzn]⟩, by omega⟩
  · refine tr_exit ?_
    refine tx_then_exit ?_
    refine tx_then_exit ?_
    refine tx_in_exit ?_
    refine tx_then ?_
    refine tr_seq ?_
    refine tr_region ?_
    refine tl_step rfl (oj_val (y_move (fe_t rfl)) ?_)
    refine tl_step rfl (oj_val (y_assign (fe_t rfl)) ?_)
    refine tl_nil ?_
    refine tx_then ?_
    refine tr_ret ?_
    refine tx_ret (res1 Tryd.results42 (rok_t rfl)) (fun w' hS => ?_)
    obtain rfl : i = l.length := by omega
    rw [List.take_length] at hzn hzx
    exact ⟨z, ⟨hzn, hzx⟩, rfl, hS.pick [1] _ rfl (by decide)⟩

end Go.Proofs.YtfcpmcdlgkfolaaDoor.Bn

namespace Go.Proofs.YtfcpmcdlgkfolaaDoor.Bn
open Go.RowKit Go.Lib Go.Proofs.YtfcpmcdlgkfolaaDoor.E

theorem kind_get (w : List UInt8) : (sget ([] ++ [([105, 110], (.int .i64 1))] ++ [([116, 105, 99, 107], (.int .i64 2))] ++ [([112, 111, 108, 108], (.int .i64 3))]) w).getD (.int .i64 0) = (.int .i64 ((kindOf w : Int))) := by
  simp only [List.nil_append, List.cons_append, sget]
  by_cases h1 : w = [105, 110]
  · subst h1; rfl
  · by_cases h2 : w = [116, 105, 99, 107]
    · subst h2; rfl
    · by_cases h3 : w = [112, 111, 108, 108]
      · subst h3; rfl
      · have g1 := Ne.symm h1
        have g2 := Ne.symm h2
        have g3 := Ne.symm h3
        simp only [ne_eq] at g1 g2 g3
        simp only [if_neg g1, if_neg g2, if_neg g3]
        rw [show kindOf w = 0 by simp [kindOf, sIn, sTick, sPoll, h1, h2, h3]]
        rfl
theorem rdl_cutS {w0 : World} {L : List Res} {e n c : Nat} {A : Option Addr} {xs : List Value} {ws : List (List UInt8)} (i : Nat) (hi : lget L i = some (vec e 1 (.slice A n c) n xs)) (hx : xs = ws.map str) (hn : n = ws.length) (h1 : 1 ≤ n) : RdL w0 L (cutA A 1 c 1) (ws.tail.map str) := fun w hS => by
  have hh := OwnV.rd (hS.holds i _ hi)
  have h2 := hh.2.2
  subst hx
  have hc : n ≤ c := by
    rcases (hS.holds i _ hi).2 with ⟨h3, h4⟩ | ⟨g, off, cap, cur, h3, _, h5, _⟩
    · omega
    · cases h3
      exact h5
  rcases h2 with h2 | ⟨b, o, rfl, hcell⟩
  · have : ws = [] := by simpa using h2
    subst this
    simp at hn
    omega
  · by_cases hc1 : c = 1
    · refine .inl ?_
      match ws, hn with
      | [], hn => simp at hn; omega
      | [x], _ => rfl
      | x :: y :: r, hn => simp at hn; omega
    · refine .inr ⟨b, o + 1, by simp [cutA, hc1, Addr.add], fun j u hu => ?_⟩
      have h3 := hcell (j + 1) u (by
        match ws, hn with
        | [], hn => simp at hn; omega
        | x :: r, _ => simpa using hu)
      rw [show o + 1 + j = o + (j + 1) by omega]
      exact h3

/-- The numbers behind the first word: all read, or one that is none. -/
def NsIs (l : List UInt8) (j : Nat) (p : Bool) (ns : List Int) : Prop := (p = true → ∃ ms : List Nat, nums ((wds 32 l).tail.take j) = some ms ∧ ns = ms.map Int.ofNat) ∧ (p = false → nums (wds 32 l).tail = none)
theorem nums_snoc : ∀ {ws : List (List UInt8)} {ms : List Nat} {w : List UInt8} {n : Nat}, nums ws = some ms → num w = some n → nums (ws ++ [w]) = some (ms ++ [n])
  | [], ms, w, n, h, hn => by
    simp only [nums, Option.some.injEq] at h
    subst h
    simp [nums, hn]
  | x :: ws, ms, w, n, h, hn => by
    unfold nums at h
    split at h
    · rename_i a b h1 h2
      simp only [Option.some.injEq] at h
      subst h
      rw [List.cons_append, nums, h1, nums_snoc h2 hn]
      rfl
    · cases h
theorem NsIs.zero (l : List UInt8) : NsIs l 0 true [] := ⟨fun _ => ⟨[], by simp [nums], rfl⟩, fun h => by cases h⟩
theorem tail_at {ws : List (List UInt8)} (k : Nat) : ws.tail.getD k [] = ws.getD (k + 1) [] := by
  cases ws <;> simp
theorem NsIs.next {l : List UInt8} {j : Nat} {p : Bool} {ns : List Int} (h : NsIs l j p ns) (hj : j < (wds 32 l).tail.length) {q : Int × Bool} (hq : q.2 = okNum ((wds 32 l).tail.getD j []) ∧ (q.2 = true → q.1 = (val ((wds 32 l).tail.getD j []) : Int))) {p' : Bool} (hp : p' = (p && q.2)) : NsIs l (j + 1) p' (ns ++ [q.1]) := by
  subst hp
  refine ⟨fun e => ?_, fun e => ?_⟩
  · simp only [Bool.and_eq_true] at e
    obtain ⟨ms, h1, h2⟩ := h.1 e.1
    refine ⟨ms ++ [val ((wds 32 l).tail.getD j [])], ?_, by rw [h2, hq.2 e.2]; simp⟩
    have h3 : (wds 32 l).tail.take (j + 1) = (wds 32 l).tail.take j ++ [(wds 32 l).tail.getD j []] := by
      rw [List.take_succ_eq_append_getElem hj]
      rw [List.getD_eq_getElem?_getD, List.getElem?_eq_getElem hj]
      rfl
    rw [h3]
    exact nums_snoc h1 (by rw [okNum_num, if_pos (hq.1.symm.trans e.2)])
  · simp only [Bool.and_eq_false_iff] at e
    rcases e with e | e
    · exact h.2 e
    · exact nums_none hj (hq.1.symm.trans e)
theorem NsIs.all {l : List UInt8} {p : Bool} {ns : List Int} {j : Nat} (h : NsIs l j p ns) (hj : j = (wds 32 l).tail.length) : (p = true → ∃ ms : List Nat, nums (wds 32 l).tail = some ms ∧ ns = ms.map Int.ofNat) ∧ (p = false → nums (wds 32 l).tail = none) := by
  subst hj
  have := h
  unfold NsIs at this
  rwa [List.take_length] at this

def nAt (ns : List Int) (k : Nat) : Nat := (ns.getD k 0).toNat
theorem getN {ns : List Int} {ms : List Nat} (h : ns = ms.map Int.ofNat) {k : Nat} (hk : k < ns.length) : (ns.map (Value.int .i64))[k]? = some (.int .i64 ((nAt ns k : Int))) := by
  subst h
  simp only [List.length_map] at hk
  simp [nAt, List.getD_eq_getElem?_getD, hk]
theorem words_cons (l : List UInt8) : wds 32 l = (wds 32 l).getD 0 [] :: (wds 32 l).tail := by
  have := wds_ne 32 l
  cases h : wds 32 l with
  | nil => exact absurd h this
  | cons a b => rfl
theorem read_none {k : Nat} {l : List UInt8} {s : Sc} (h : nums (wds 32 l).tail = none) : read k s l = none := by
  have hw := words_cons l
  generalize (wds 32 l).tail = ws at hw h
  unfold read
  rw [hw]
  simp only [h]
theorem read_some {k : Nat} {l : List UInt8} {s : Sc} {ms : List Nat} (h : nums (wds 32 l).tail = some ms) : read k s l = if k = 0 then (if (wds 32 l).getD 0 [] = sRate then (match ms with
        | [a, b, c] => some ⟨a, b, c, s.ops⟩
        | _ => none) else none)
      else if kindOf ((wds 32 l).getD 0 []) = 0 then none else (match ms with
        | [n] => some { s with ops := s.ops ++ [(kindOf ((wds 32 l).getD 0 []), n)] }
        | _ => none) := by
  have hw := words_cons l
  generalize (wds 32 l).tail = ws at hw h
  generalize (wds 32 l).getD 0 [] = w at hw ⊢
  unfold read
  rw [hw]
  simp only [h]
  rcases ms with _ | ⟨a, _ | ⟨b, _ | ⟨c, _ | _⟩⟩⟩ <;> rfl

section
variable {k : Nat} {l : List UInt8} {s : Sc} {ns : List Int} {p : Bool}
theorem rd_no (h : p = false → nums (wds 32 l).tail = none) (hp : p = false) : read k s l = none := read_none (h hp)
theorem rd_0 (h : ∃ ms : List Nat, nums (wds 32 l).tail = some ms ∧ ns = ms.map Int.ofNat) (hk : k = 0) (hb : ¬ (wds 32 l).getD 0 [] = sRate ∨ ¬ ns.length = 3) : read k s l = none := by
  obtain ⟨ms, h1, h2⟩ := h
  rw [read_some h1, if_pos hk]
  rcases hb with hb | hb
  · rw [if_neg hb]
  · rw [h2, List.length_map] at hb
    split
    · match ms, hb with
      | [a, b, c], e => simp at e
      | [], _ => rfl
      | [_], _ => rfl
      | [_, _], _ => rfl
      | _ :: _ :: _ :: _ :: _, _ => rfl
    · rfl
theorem rd_0ok (h : ∃ ms : List Nat, nums (wds 32 l).tail = some ms ∧ ns = ms.map Int.ofNat) (hk : k = 0) (hb : (wds 32 l).getD 0 [] = sRate) (hl : ns.length = 3) : read k s l = some ⟨nAt ns 0, nAt ns 1, nAt ns 2, s.ops⟩ := by
  obtain ⟨ms, h1, h2⟩ := h
  rw [read_some h1, if_pos hk, if_pos hb]
  subst h2
  match ms, hl with
  | [a, b, c], _ => rfl
theorem rd_1 (h : ∃ ms : List Nat, nums (wds 32 l).tail = some ms ∧ ns = ms.map Int.ofNat) (hk : ¬ k = 0) (hb : kindOf ((wds 32 l).getD 0 []) = 0 ∨ ¬ ns.length = 1) : read k s l = none := by
  obtain ⟨ms, h1, h2⟩ := h
  rw [read_some h1, if_neg hk]
  rcases hb with hb | hb
  · rw [if_pos hb]
  · rw [h2, List.length_map] at hb
    split
    · rfl
    · match ms, hb with
      | [a], e => simp at e
      | [], _ => rfl
      | _ :: _ :: _, _ => rfl
theorem rd_1ok (h : ∃ ms : List Nat, nums (wds 32 l).tail = some ms ∧ ns = ms.map Int.ofNat) (hk : ¬ k = 0) (hb : ¬ kindOf ((wds 32 l).getD 0 []) = 0) (hl : ns.length = 1) : read k s l = some { s with ops := s.ops ++ [(kindOf ((wds 32 l).getD 0 []), nAt ns 0)] } := by
  obtain ⟨ms, h1, h2⟩ := h
  rw [read_some h1, if_neg hk, if_neg hb]
  subst h2
  match ms, hl with
  | [a], _ => rfl
end

/-! ### Where the text is -/
structure At (t : List UInt8) (i k f : Nat) (s : Sc) : Prop where
  hi : i ≤ t.length
  hf : f ≤ i
  ho : s.ops.length ≤ k
  hk : k ≤ i
  hp : prs k s (t.drop f) = parse t
  hn : (10 : UInt8) ∉ (t.drop f).take (i - f)
theorem At.zero (t : List UInt8) : At t 0 0 0 sc0 := ⟨Nat.zero_le _, Nat.le_refl _, Nat.le_refl _, Nat.le_refl _, rfl, by simp⟩
theorem At.byte {t : List UInt8} {i k f : Nat} {s : Sc} (h : At t i k f s) (hi : i < t.length) : (t.drop f).take (i + 1 - f) = (t.drop f).take (i - f) ++ [t[i]] := by
  have := h.hf
  rw [show i + 1 - f = i - f + 1 by omega, List.take_succ_eq_append_getElem (by simp; omega)]
  simp [show f + (i - f) = i by omega]
theorem At.skip {t : List UInt8} {i k f : Nat} {s : Sc} (h : At t i k f s) (hi : i < t.length) (hb : ¬ t[i] = 10) : At t (i + 1) k f s := by
  refine ⟨hi, by have := h.hf; omega, h.ho, by have := h.hk; omega, h.hp, ?_⟩
  rw [h.byte hi]
  simp only [List.mem_append, List.mem_singleton, not_or]
  exact ⟨h.hn, fun e => hb e.symm⟩
theorem At.line {t : List UInt8} {i k f : Nat} {s : Sc} (h : At t i k f s) (hi : i < t.length) (hb : t[i] = 10) : t.drop f = (t.drop f).take (i - f) ++ 10 :: t.drop (i + 1) := by
  have hf := h.hf
  have h1 : t.drop f = (t.drop f).take (i + 1 - f) ++ (t.drop f).drop (i + 1 - f) := (List.take_append_drop _ _).symm
  rw [h.byte hi, List.drop_drop, show f + (i + 1 - f) = i + 1 by omega, hb, List.append_assoc] at h1
  exact h1
theorem At.next {t : List UInt8} {i k f : Nat} {s r : Sc} (h : At t i k f s) (hi : i < t.length) (hb : t[i] = 10) (hr : read k s ((t.drop f).take (i - f)) = some r) : At t (i + 1) (k + 1) (i + 1) r := by
  have hp := h.hp
  rw [h.line hi hb, prs_cons h.hn, hr] at hp
  have hm := read_more hr
  exact ⟨hi, Nat.le_refl _, by have := h.ho; omega, by have := h.hk; omega, hp, by simp⟩
theorem At.bad {t : List UInt8} {i k f : Nat} {s : Sc} (h : At t i k f s) (hi : i < t.length) (hb : t[i] = 10) (hr : read k s ((t.drop f).take (i - f)) = none) : parse t = (k, none) := by
  have hp := h.hp
  rw [h.line hi hb, prs_cons h.hn, hr] at hp
  exact hp.symm
theorem At.end_ {t : List UInt8} {i k f : Nat} {s : Sc} (h : At t i k f s) (hi : t.length ≤ i) : parse t = fin k (t.drop f) s := by
  have h1 := h.hn
  have h2 := h.hi
  rw [List.take_of_length_le (by simp; omega)] at h1
  rw [← h.hp, prs_none h1]
theorem At.short {t : List UInt8} {i k f : Nat} {s : Sc} (h : At t i k f s) (hi : t.length ≤ i) (hb : f < t.length ∨ k = 0) : parse t = (k, none) := by
  rw [h.end_ hi, fin, if_neg]
  rintro ⟨h1, h2⟩
  have h3 := congrArg List.length h1
  simp at h3
  omega
theorem At.whole {t : List UInt8} {i k f : Nat} {s : Sc} (h : At t i k f s) (hi : t.length ≤ i) (h1 : ¬ f < t.length) (h2 : ¬ k = 0) : parse t = (0, some s) := by
  rw [h.end_ hi, fin, if_pos ⟨List.drop_of_length_le (by omega), h2⟩]
end Go.Proofs.YtfcpmcdlgkfolaaDoor.Bn

namespace Go.Proofs.YtfcpmcdlgkfolaaDoor.Bn
open Go.RowKit Go.Lib Go.Proofs.YtfcpmcdlgkfolaaDoor.E

set_option maxRecDepth 100000 in
set_option maxHeartbeats 4000000 in
theorem zparseE (t : List UInt8) (hl : t.length ≤ 1000000000) (w : World) :
    Calls Tryd.prog 12 #[str t] w fun e w' => ∃ q : Nat × Sc × Vs × Nat, (OpsIs q.2.2.1 q.2.1.ops ∧ q.2.1.ops.length ≤ t.length ∧ ((q.2.2.2 = 0 ∧ q.1 = 0 ∧ parse t = (0, some q.2.1)) ∨ (q.2.2.2 = 1 ∧ q.2.1 = sc0 ∧ q.2.2.1.A = none ∧ parse t = (q.1, none)))) ∧ e = .returned (.tuple #[.agg (cSc q.2.1 (.slice q.2.2.1.A q.2.2.1.n q.2.2.1.c)).toArray, (.int .i64 ((q.1 : Int))), (.int .i64 ((q.2.2.2 : Int)))]) ∧ St w w' [vec 52 2 (.slice q.2.2.1.A q.2.2.1.n q.2.2.1.c) q.2.2.1.n q.2.2.1.xs] := by
  refine calls_tr Tryd.func12 Tryd.ntmps12 rfl rfl (St.refl _) ?_
  refine tr_seq ?_
  refine tr_region ?_
  refine tl_step rfl (oj_alloc Tryd.zeroValue24 (fun rb => ?_))
  refine tl_step rfl (oj_val (y_assign fe_c) ?_)
  refine tl_step rfl (oj_val (y_assign fe_c) ?_)
  refine tl_nil ?_
  refine tx_then ?_
  refine tr_seq ?_
  refine tr_region ?_
  refine tl_step rfl (oj_alloc Tryd.zeroValue24 (fun bs => ?_))
  refine tl_nil ?_
  refine tx_then ?_
  refine tr_seq ?_
  refine tr_region ?_
  refine tl_step rfl (oj_val (y_assign fe_c) ?_)
  refine tl_step rfl (oj_val (y_assign fe_c) ?_)
  refine tl_nil ?_
  refine tx_then ?_
  refine tr_seq ?_
  refine tr_seq ?_
  refine tr_region ?_
  refine tl_step rfl (oj_val (y_move (fe_t rfl)) ?_)
  refine tl_step rfl (oj_val (y_slen Tryd.underlying9 (fe_t rfl)) ?_)
  refine tl_step rfl (oj_val (y_move fe_c) ?_)
  refine tl_nil ?_
  refine tx_then ?_
  refine tr_block ?_
  refine tr_add (r := vec 52 2 (.slice none 0 0) 0 []) vec_nil rfl ?_
  refine tr_loop5 [3, 4, 6, 7, 8, 9, 10, 11, 12, 14, 15, 16, 19, 20, 21, 22, 23, 24, 25, 26, 27, 28, 29, 30, 31, 32, 33, 34, 35, 36, 37, 38, 39, 40, 41, 42, 43, 44, 45, 46, 47, 48, 49, 50, 51, 52, 53, 54, 55, 56, 57, 58, 59, 60, 61, 62, 63, 64, 65, 66, 67, 68, 69, 70, 71, 72, 73, 74, 75, 76, 77, 78, 79, 80, 81, 82, 83, 84, 85, 86, 87, 88, 89, 90, 91, 92, 93, 94, 95, 96, 97, 98, 99, 100, 101, 102, 103, 104, 105, 106, 107, 108, 109, 110, 111, 112, 113, 114, 115, 116, 117, 118] (fun (i : Nat) (k : Nat) (f : Nat) (s : Sc) (z : Vs) => [(19, .int .i64 (i : Int)), (6, .int .i64 (k : Int)), (7, .int .i64 (f : Int))]) 0 (fun (i : Nat) (k : Nat) (f : Nat) (s : Sc) (z : Vs) => [(1, blk bs (cSc s (.slice z.A z.n z.c))), (0, vec 52 2 (.slice z.A z.n z.c) z.n z.xs)]) (fun (i : Nat) (k : Nat) (f : Nat) (s : Sc) (z : Vs) => At t i k f s ∧ OpsIs z s.ops) (fun (i : Nat) (k : Nat) (f : Nat) (s : Sc) (z : Vs) => t.length - i) (0) (0) (0) (sc0) (⟨none, 0, 0, []⟩ : Vs) (cov_cons (by first | rfl | exact v_int (by omega) | exact v_bool (by simp [*])) (cov_cons (by first | rfl | exact v_int (by omega) | exact v_bool (by simp [*])) (cov_cons (by first | rfl | exact v_int (by omega) | exact v_bool (by simp [*])) (cov_nil)))) (fun w h => h) ?_ ?_
  · try dsimp only
    exact ⟨At.zero t, ⟨rfl, rfl⟩⟩
  intro i k f s z hp
  obtain ⟨hA, hz⟩ := hp
  have hAf := hA.hf
  have hAk := hA.hk
  have hAi := hA.hi
  have hAo := hA.ho
  have hz1 := hz.1
  refine tr_seq ?_
  refine tr_region ?_
  refine tl_step rfl (oj_val (y_lss (fe_t rfl) (fe_t rfl)) ?_)
  refine tl_nil ?_
  refine tx_then ?_
  refine tr_seq ?_
  refine tr_condp (fe_t rfl) (fun hq1 => ?_) (fun hq2 => ?_)
  · refine tr_skip ?_
    refine tx_then ?_
    refine tr_seq ?_
    refine tr_block ?_
    refine tr_seq ?_
    refine tr_region ?_
    refine tl_step rfl (oj_val (y_move (fe_t rfl)) ?_)
    refine tl_step rfl (oj_val (y_assign (fe_t rfl)) ?_)
    refine tl_nil ?_
    refine tx_then ?_
    refine tr_seq ?_
    refine tr_seq ?_
    refine tr_region ?_
    refine tl_step rfl (oj_val (y_move (fe_t rfl)) ?_)
    refine tl_step rfl (oj_val (y_move (fe_t rfl)) ?_)
    refine tl_step rfl (oj_val (y_sidx Tryd.underlying9 (fe_t rfl) (fe_t rfl) (by omega)) ?_)
    refine tl_step rfl (oj_val (y_neq (fe_t rfl) fe_c) ?_)
    refine tl_nil ?_
    refine tx_then ?_
    refine tr_condp (fe_t rfl) (fun hq3 => ?_) (fun hq4 => ?_)
    · refine tr_exit ?_
      refine tx_then_exit ?_
      refine tx_in_exit ?_
      refine tx_then ?_
      refine tr_region ?_
      refine tl_step rfl (oj_val (y_inc (fe_t rfl) fe_c (by omega)) ?_)
      refine tl_step rfl (oj_val (y_move (fe_t rfl)) ?_)
      refine tl_nil ?_
      apply tx_back5 (i + 1) (k) (f) (s) (z)
      · exact (cov_cons (by first | rfl | exact v_int (by omega) | exact v_bool (by simp [*])) (cov_cons (by first | rfl | exact v_int (by omega) | exact v_bool (by simp [*])) (cov_cons (by first | rfl | exact v_int (by omega) | exact v_bool (by simp [*])) (cov_nil))))
      · repeat (first | exact over_nil | refine over_put rfl ?_ | refine over_drop rfl ?_)
      · exact fun w h => h.pick [0, 1, 2] _ rfl (by decide)
      · exact ⟨⟨hA.skip (by omega) (fun e => ‹¬ ((t[i].toNat : Nat) : Int) = 10› (by rw [e]; rfl)), hz⟩, by omega⟩
    · refine tr_skip ?_
      refine tx_then ?_
      refine tr_seq ?_
      have hb10 : t[i] = 10 := UInt8.toNat_inj.1 (show t[i].toNat = (10 : UInt8).toNat by simp; omega)
      refine tr_region ?_
      refine tl_step rfl (oj_val (y_move (fe_t rfl)) ?_)
      refine tl_step rfl (oj_val (y_move (fe_t rfl)) ?_)
      refine tl_step rfl (oj_val (y_move (fe_t rfl)) ?_)
      refine tl_step rfl (oj_val (y_scut Tryd.underlying9 (fe_t rfl) (fe_t rfl) (fe_t rfl) (by omega) (by omega)) ?_)
      have hll : ((t.drop f).take (i - f)).length ≤ t.length := by simp; omega
      generalize hgl : (t.drop f).take (i - f) = l at hll ⊢
      refine tl_step rfl (oj_call Tryd.call42 fe_f (fel_cons (fe_t rfl) fel_nil) (fun w' hS => zwordsE l (by omega) w') (fun r1 hr1 => ?_))
      refine tl_step rfl (oj_val (y_assign (fe_t rfl)) ?_)
      refine tl_nil ?_
      refine tx_then ?_
      refine tr_seq ?_
      have hwp := List.length_pos_iff.2 (wds_ne 32 l)
      have hwl := wds_len 32 l
      have hwt : (wds 32 l).tail.length = (wds 32 l).length - 1 := List.length_tail
      have hrn := hr1.1
      refine tr_region ?_
      refine tl_step rfl (oj_makeMapS (fun b_mp1 => ?_))
      refine tl_step rfl (oj_mapLit 0 Tryd.underlying112 Tryd.underlying9 (fe_t rfl) fe_c fe_c rfl (by rfl) (?_))
      refine tl_step rfl (oj_mapLit 0 Tryd.underlying112 Tryd.underlying9 (fe_t rfl) fe_c fe_c rfl (by rfl) (?_))
      refine tl_step rfl (oj_mapLit 0 Tryd.underlying112 Tryd.underlying9 (fe_t rfl) fe_c fe_c rfl (by rfl) (?_))
      refine tl_step rfl (oj_val (y_move (fe_t rfl)) ?_)
      refine tl_step rfl (oj_val (y_move (fe_t rfl)) ?_)
      refine tl_step rfl (oj_val (y_indexI (m := 0) Tryd.underlying32 Tryd.sizeOf9 (fe_t rfl) fe_c (rdl_vec 1 rfl) (by rw [hr1.2, List.length_map, hr1.1, Nat.mul_one]) (by decide) (by decide) (by omega) rfl) ?_)
      refine tl_step rfl (oj_val (y_ld Tryd.isAgg9 (fe_t rfl) (rdl_vec 1 rfl) (by rw [hr1.2]; exact getS (ws := wds 32 l) (k := 0) hwp)) ?_)
      refine tl_step rfl (oj_val (y_to (y_lookupS 0 Tryd.underlying112 Tryd.underlying9 Tryd.zeroValue3 (fe_t rfl) (fe_t rfl) rfl) (kind_get _)) ?_)
      refine tl_step rfl (oj_val (y_assign (fe_t rfl)) ?_)
      refine tl_nil ?_
      refine tx_then ?_
      refine tr_seq ?_
      refine tr_region ?_
      refine tl_step rfl (oj_val (y_assign fe_c) ?_)
      refine tl_nil ?_
      refine tx_then ?_
      refine tr_seq ?_
      refine tr_region ?_
      refine tl_step rfl (oj_val (y_assign fe_c) ?_)
      refine tl_nil ?_
      refine tx_then ?_
      refine tr_seq ?_
      refine tr_seq ?_
      refine tr_region ?_
      refine tl_step rfl (oj_val (y_move (fe_t rfl)) ?_)
      refine tl_step rfl (oj_val (y_cutL (l := 1) Tryd.underlying32 Tryd.sizeOf9 (fe_t rfl) fe_c (by omega)) ?_)
      refine tl_step rfl (oj_val (y_len Tryd.underlying32 (fe_t rfl)) ?_)
      refine tl_step rfl (oj_val (y_move fe_c) ?_)
      refine tl_nil ?_
      refine tx_then ?_
      refine tr_block ?_
      refine tr_add (r := vec 3 1 (.slice none 0 0) 0 []) vec_nil rfl ?_
      refine tr_loop4 [11, 12, 14, 15, 16, 40, 41, 42, 43, 44, 45, 46, 47, 48, 49, 50, 51, 52, 53, 54, 55, 56, 57] (fun (j : Nat) (y : Vs) (p : Bool) (ns : List Int) => [(40, .int .i64 (j : Int)), (11, .slice y.A y.n y.c), (12, .bool p)]) 0 (fun (j : Nat) (y : Vs) (p : Bool) (ns : List Int) => [(0, vec 3 1 (.slice y.A y.n y.c) y.n y.xs)]) (fun (j : Nat) (y : Vs) (p : Bool) (ns : List Int) => j ≤ (wds 32 l).tail.length ∧ y.n = j ∧ ns.length = j ∧ y.xs = ns.map (.int .i64) ∧ NsIs l j p ns) (fun (j : Nat) (y : Vs) (p : Bool) (ns : List Int) => (wds 32 l).tail.length - j) (0) (⟨none, 0, 0, []⟩ : Vs) (true) ([]) (cov_cons (by first | rfl | exact v_int (by omega) | exact v_bool (by simp [*])) (cov_cons (by first | rfl | exact v_int (by omega) | exact v_bool (by simp [*])) (cov_cons (by first | rfl | exact v_int (by omega) | exact v_bool (by simp [*])) (cov_nil)))) (fun w h => h) ?_ ?_
      · try dsimp only
        exact ⟨by omega, rfl, rfl, rfl, NsIs.zero l⟩
      intro j y p ns hp
      obtain ⟨hj, hyn, hnl, hyx, hN⟩ := hp
      refine tr_seq ?_
      refine tr_region ?_
      refine tl_step rfl (oj_val (y_lss (fe_t rfl) (fe_t rfl)) ?_)
      refine tl_nil ?_
      refine tx_then ?_
      refine tr_seq ?_
      refine tr_condp (fe_t rfl) (fun hq5 => ?_) (fun hq6 => ?_)
      · refine tr_skip ?_
        refine tx_then ?_
        refine tr_seq ?_
        refine tr_block ?_
        refine tr_seq ?_
        refine tr_region ?_
        refine tl_step rfl (oj_val (y_index Tryd.underlying32 Tryd.sizeOf9 (fe_t rfl) (fe_t rfl) (rdl_cutS 2 rfl hr1.2 hr1.1 (by omega)) (by rw [List.length_map, List.length_tail]; omega) (by decide) (by omega) (Nat.mul_one _)) ?_)
        refine tl_step rfl (oj_val (y_ld Tryd.isAgg9 (fe_t rfl) (rdl_cutS 2 rfl hr1.2 hr1.1 (by omega)) (getS (ws := (wds 32 l).tail) (by omega))) ?_)
        refine tl_step rfl (oj_val (y_assign (fe_t rfl)) ?_)
        refine tl_nil ?_
        refine tx_then ?_
        refine tr_seq ?_
        refine tr_region ?_
        refine tl_step rfl (oj_val (y_move (fe_t rfl)) ?_)
        refine tl_step rfl (oj_call Tryd.call43 fe_f (fel_cons (fe_t rfl) fel_nil) (fun w' hS => znumberE ((wds 32 l).tail.getD j []) (by rw [tail_at]; have := wds_at (c := 32) (l := l) (j + 1); omega) w') (fun n2 hn2 => ?_))
        refine tl_step rfl (oj_val (y_move (fe_t rfl)) ?_)
        refine tl_step rfl (oj_val (y_extract (fe_t rfl) rfl) ?_)
        refine tl_step rfl (oj_val (y_extract (fe_t rfl) rfl) ?_)
        refine tl_step rfl (oj_val (y_assign (fe_t rfl)) ?_)
        refine tl_step rfl (oj_val (y_assign (fe_t rfl)) ?_)
        refine tl_nil ?_
        refine tx_then ?_
        refine tr_region ?_
        refine tl_step rfl (oj_val (y_move (fe_t rfl)) ?_)
        refine tl_step rfl (oj_val (y_move (fe_t rfl)) ?_)
        refine tl_step rfl (oj_slice1 Tryd.underlying39 Tryd.sizeOf3 Tryd.zeroValue3 (fe_t rfl) (by decide) rfl (fun b1 => ?_))
        refine tl_step rfl (oj_append (i := 1) (s := 1) (z := (.int .i64 0)) (bytes := 8) Tryd.underlying39 (by kernel_rfl) (fe_t rfl) (fe_t rfl) rfl (rdl_blk 0 rfl) rfl (by decide) (by first | exact oneI | exact oneF (fun _ => rfl) | exact fun u hu => List.all_eq_true.1 (show List.all _ (fun x => x.oneCell') = true from rfl) u hu | (intro u hu; revert u hu; simp [Value.oneCell'])) (by decide) ⟨by omega, by decide⟩ (fun Aa1 ca1 hca1 => ?_))
        refine tl_step rfl (oj_val (y_move (fe_t rfl)) ?_)
        refine tl_step rfl (oj_val (y_move (fe_t rfl)) ?_)
        refine tl_split (d := 54) rfl (fun hq7 => ?_) (fun hq8 => ?_)
        · refine tl_want rfl rfl rfl (oj_val (y_move (fe_t rfl)) ?_)
          refine tl_step rfl (oj_val (y_pickt (fe_t rfl) (fe_t rfl)) ?_)
          refine tl_step rfl (oj_val (y_assign (fe_t rfl)) ?_)
          refine tl_step rfl (oj_val (y_assign (fe_t rfl)) ?_)
          refine tl_nil ?_
          refine tx_in ?_
          refine tx_then ?_
          refine tr_region ?_
          refine tl_step rfl (oj_val (y_inc (fe_t rfl) fe_c (by omega)) ?_)
          refine tl_step rfl (oj_val (y_move (fe_t rfl)) ?_)
          refine tl_nil ?_
          apply tx_back4 (j + 1) ((⟨_, _, _, _⟩ : Vs)) (_) (ns ++ [n2.1])
          · exact (cov_cons (by first | rfl | exact v_int (by omega) | exact v_bool (by simp [*])) (cov_cons (by first | rfl | exact v_int (by omega) | exact v_bool (by simp [*])) (cov_cons (by first | rfl | exact v_int (by omega) | exact v_bool (by simp [*])) (cov_nil))))
          · repeat (first | exact over_nil | refine over_put rfl ?_ | refine over_drop rfl ?_)
          · exact fun w h => h.pick [1, 2, 3, 4, 5, 6] _ rfl (by decide)
          · exact ⟨⟨by omega, by dsimp only; omega, by simp [hnl], by dsimp only; rw [hyx, List.map_append]; rfl, hN.next (by omega) hn2 (by simp [*])⟩, by omega⟩
        · refine tl_skip rfl rfl rfl rfl ?_
          refine tl_step rfl (oj_val (y_pickf (fe_t rfl) fe_c) ?_)
          refine tl_step rfl (oj_val (y_assign (fe_t rfl)) ?_)
          refine tl_step rfl (oj_val (y_assign (fe_t rfl)) ?_)
          refine tl_nil ?_
          refine tx_in ?_
          refine tx_then ?_
          refine tr_region ?_
          refine tl_step rfl (oj_val (y_inc (fe_t rfl) fe_c (by omega)) ?_)
          refine tl_step rfl (oj_val (y_move (fe_t rfl)) ?_)
          refine tl_nil ?_
          apply tx_back4 (j + 1) ((⟨_, _, _, _⟩ : Vs)) (_) (ns ++ [n2.1])
          · exact (cov_cons (by first | rfl | exact v_int (by omega) | exact v_bool (by simp [*])) (cov_cons (by first | rfl | exact v_int (by omega) | exact v_bool (by simp [*])) (cov_cons (by first | rfl | exact v_int (by omega) | exact v_bool (by simp [*])) (cov_nil))))
          · repeat (first | exact over_nil | refine over_put rfl ?_ | refine over_drop rfl ?_)
          · exact fun w h => h.pick [1, 2, 3, 4, 5, 6] _ rfl (by decide)
          · exact ⟨⟨by omega, by dsimp only; omega, by simp [hnl], by dsimp only; rw [hyx, List.map_append]; rfl, hN.next (by omega) hn2 (by simp [*])⟩, by omega⟩
      · refine tr_exit ?_
        refine tx_then_exit ?_
        refine tx_then_exit ?_
        refine tx_in_exit ?_
        refine tx_then ?_
        refine tr_seq ?_
        refine tr_block ?_
        refine tr_seq ?_
        have hall := hN.all (by omega)
        refine tr_region ?_
        refine tl_step rfl (oj_val (y_move (fe_t rfl)) ?_)
        refine tl_step rfl (oj_val (y_eq (fe_t rfl) fe_c) ?_)
        refine tl_step rfl (oj_val (y_move (fe_t rfl)) ?_)
        refine tl_splitp (d := 63) rfl (fun hq9 => ?_) (fun hq10 => ?_)
        · refine tl_want rfl rfl rfl (oj_val (y_move (fe_t rfl)) ?_)
          refine tl_step rfl (oj_val (y_pickt (fe_t rfl) (fe_t rfl)) ?_)
          refine tl_step rfl (oj_val (y_move (fe_t rfl)) ?_)
          refine tl_split (d := 66) rfl (fun hq11 => ?_) (fun hq12 => ?_)
          · refine tl_want rfl rfl rfl (oj_val (y_move (fe_t rfl)) ?_)
            refine tl_want rfl rfl rfl (oj_val (y_indexI (m := 0) Tryd.underlying32 Tryd.sizeOf9 (fe_t rfl) fe_c (rdl_vec 2 rfl) (by rw [hr1.2, List.length_map, hr1.1, Nat.mul_one]) (by decide) (by decide) (by omega) rfl) ?_)
            refine tl_want rfl rfl rfl (oj_val (y_ld Tryd.isAgg9 (fe_t rfl) (rdl_vec 2 rfl) (by rw [hr1.2]; exact getS (ws := wds 32 l) (k := 0) hwp)) ?_)
            refine tl_want rfl rfl rfl (oj_val (y_eqs (fe_t rfl) fe_c) ?_)
            refine tl_step rfl (oj_val (y_pickt (fe_t rfl) (fe_t rfl)) ?_)
            refine tl_step rfl (oj_val (y_move (fe_t rfl)) ?_)
            refine tl_splitp (d := 72) rfl (fun hq13 => ?_) (fun hq14 => ?_)
            · refine tl_want rfl rfl rfl (oj_val (y_move (fe_t rfl)) ?_)
              refine tl_want rfl rfl rfl (oj_val (y_len Tryd.underlying39 (fe_t rfl)) ?_)
              refine tl_want rfl rfl rfl (oj_val (y_eq (fe_t rfl) fe_c) ?_)
              refine tl_step rfl (oj_val (y_pickt (fe_t rfl) (fe_t rfl)) ?_)
              refine tl_step rfl (oj_val (y_assign (fe_t rfl)) ?_)
              refine tl_nil ?_
              refine tx_then ?_
              refine tr_condp (fe_t rfl) (fun hq15 => ?_) (fun hq16 => ?_)
              · obtain ⟨ms, hms1, hms2⟩ := hall.1 (by assumption)
                refine tb_draw 10 (sel _ [0, 1, 2, 3, 5]) (fun w h => h.sel _ rfl (by decide)) rfl ?_
                refine tb_float (i := 0) rfl (by kernel_rfl) rfl (wants_none rfl) (yq_of (y_move (fe_t rfl))) ?_
                refine tb_float (i := 1) rfl (by kernel_rfl) rfl (wants_none rfl) (yq_of (y_indexI (m := 0) Tryd.underlying39 Tryd.sizeOf3 (fe_t rfl) fe_c (rdl_vec 0 rfl) (by rw [hyx, List.length_map]; omega) (by decide) (by decide) (by omega) rfl)) ?_
                refine tb_float (i := 2) rfl (by kernel_rfl) rfl (wants_none rfl) (yq_of (y_ld Tryd.isAgg3 (fe_t rfl) (rdl_vec 0 rfl) (by rw [hyx]; exact getN hms2 (by omega)))) ?_
                refine tb_float (i := 3) rfl (by kernel_rfl) rfl (wants_none rfl) (yq_of (y_move (fe_t rfl))) ?_
                refine tb_float (i := 4) rfl (by kernel_rfl) rfl (wants_none rfl) (yq_of (y_indexI (m := 1) Tryd.underlying39 Tryd.sizeOf3 (fe_t rfl) fe_c (rdl_vec 0 rfl) (by rw [hyx, List.length_map]; omega) (by decide) (by decide) (by omega) rfl)) ?_
                refine tb_float (i := 5) rfl (by kernel_rfl) rfl (wants_none rfl) (yq_of (y_ld Tryd.isAgg3 (fe_t rfl) (rdl_vec 0 rfl) (by rw [hyx]; exact getN hms2 (by omega)))) ?_
                refine tb_float (i := 6) rfl (by kernel_rfl) rfl (wants_none rfl) (yq_of (y_move (fe_t rfl))) ?_
                refine tb_float (i := 7) rfl (by kernel_rfl) rfl (wants_none rfl) (yq_of (y_indexI (m := 2) Tryd.underlying39 Tryd.sizeOf3 (fe_t rfl) fe_c (rdl_vec 0 rfl) (by rw [hyx, List.length_map]; omega) (by decide) (by decide) (by omega) rfl)) ?_
                refine tb_float (i := 8) rfl (by kernel_rfl) rfl (wants_none rfl) (yq_of (y_ld Tryd.isAgg3 (fe_t rfl) (rdl_vec 0 rfl) (by rw [hyx]; exact getN hms2 (by omega)))) ?_
                refine tb_float (i := 9) rfl (by kernel_rfl) rfl (wants_none rfl) (yq_of (y_fieldAddr (td := 3) Tryd.underlying24 rfl rfl Tryd.sizeOf3 (o' := 0) rfl (fe_t rfl))) ?_
                refine tb_one2 (i := 10) rfl (by kernel_rfl) (by kernel_rfl) (wants_none rfl) (oj_store1 4 Tryd.sizeOf3 (fe_t rfl) (fe_t rfl) rfl rfl rfl rfl (⟨fun w h => h.pick [0, 1, 2, 3, 5] _ rfl (by decide), ?_⟩))
                refine tb_float (i := 11) rfl (by kernel_rfl) rfl (wants_none rfl) (yq_of (y_fieldAddr (td := 3) Tryd.underlying24 rfl rfl Tryd.sizeOf3 (o' := 1) rfl (fe_t rfl))) ?_
                refine tb_one2 (i := 12) rfl (by kernel_rfl) (by kernel_rfl) (wants_none rfl) (oj_store1 4 Tryd.sizeOf3 (fe_t rfl) (fe_t rfl) rfl rfl rfl rfl (⟨fun w h => h.pick [0, 1, 2, 3, 5] _ rfl (by decide), ?_⟩))
                refine tb_float (i := 13) rfl (by kernel_rfl) rfl (wants_none rfl) (yq_of (y_fieldAddr (td := 3) Tryd.underlying24 rfl rfl Tryd.sizeOf3 (o' := 2) rfl (fe_t rfl))) ?_
                refine tb_one2 (i := 14) rfl (by kernel_rfl) (by kernel_rfl) (wants_none rfl) (oj_store1 4 Tryd.sizeOf3 (fe_t rfl) (fe_t rfl) rfl rfl rfl rfl (⟨fun w h => h.pick [0, 1, 2, 3, 5] _ rfl (by decide), ?_⟩))
                refine tb_done (by kernel_rfl) ?_
                refine tx_in ?_
                refine tx_then ?_
                refine tr_region ?_
                refine tl_step rfl (oj_val (y_move (fe_t rfl)) ?_)
                refine tl_step rfl (oj_val (y_inc (fe_t rfl) fe_c (by omega)) ?_)
                refine tl_step rfl (oj_val (y_move (fe_t rfl)) ?_)
                refine tl_step rfl (oj_val (y_inc (fe_t rfl) fe_c (by omega)) ?_)
                refine tl_step rfl (oj_val (y_assign (fe_t rfl)) ?_)
                refine tl_step rfl (oj_val (y_assign (fe_t rfl)) ?_)
                refine tl_nil ?_
                refine tx_in ?_
                refine tx_then ?_
                refine tr_region ?_
                refine tl_step rfl (oj_val (y_inc (fe_t rfl) fe_c (by omega)) ?_)
                refine tl_step rfl (oj_val (y_move (fe_t rfl)) ?_)
                refine tl_nil ?_
                apply tx_back5 (i + 1) (k + 1) (i + 1) (⟨nAt ns 0, nAt ns 1, nAt ns 2, s.ops⟩) (z)
                · exact (cov_cons (by first | rfl | exact v_int (by omega) | exact v_bool (by simp [*])) (cov_cons (by first | rfl | exact v_int (by omega) | exact v_bool (by simp [*])) (cov_cons (by first | rfl | exact v_int (by omega) | exact v_bool (by simp [*])) (cov_nil))))
                · repeat (first | exact over_nil | refine over_put rfl ?_ | refine over_drop rfl ?_)
                · exact fun w h => h.pick [3, 4, 5] _ rfl (by decide)
                · exact ⟨⟨hA.next (by omega) hb10 (by rw [hgl]; exact rd_0ok ⟨ms, hms1, hms2⟩ (by omega) ‹_› (by omega)), hz⟩, by omega⟩
              · refine tr_seq ?_
                refine tr_region ?_
                refine tl_step rfl (oj_val (y_move (fe_t rfl)) ?_)
                refine tl_step rfl (oj_val (y_gtr (fe_t rfl) fe_c) ?_)
                refine tl_step rfl (oj_val (y_move (fe_t rfl)) ?_)
                refine tl_splitp (d := 92) rfl (fun hq17 => ?_) (fun hq18 => ?_)
                · exfalso; omega
                · refine tl_skip rfl rfl rfl rfl ?_
                  refine tl_step rfl (oj_val (y_pickf (fe_t rfl) fe_c) ?_)
                  refine tl_step rfl (oj_val (y_move (fe_t rfl)) ?_)
                  refine tl_skip rfl rfl rfl rfl ?_
                  refine tl_skip rfl rfl rfl rfl ?_
                  refine tl_step rfl (oj_val (y_pickf (fe_t rfl) fe_c) ?_)
                  refine tl_step rfl (oj_val (y_move (fe_t rfl)) ?_)
                  refine tl_skip rfl rfl rfl rfl ?_
                  refine tl_skip rfl rfl rfl rfl ?_
                  refine tl_skip rfl rfl rfl rfl ?_
                  refine tl_step rfl (oj_val (y_pickf (fe_t rfl) fe_c) ?_)
                  refine tl_step rfl (oj_val (y_assign (fe_t rfl)) ?_)
                  refine tl_nil ?_
                  refine tx_then ?_
                  refine tr_condf (fe_t rfl) ?_
                  refine tr_seq ?_
                  have hbad : read k s l = none := rd_0 (hall.1 (by assumption)) (by omega) (.inr (by omega))
                  refine tr_add (r := vec 52 2 (.slice none 0 0) 0 []) vec_nil rfl ?_
                  refine tr_region ?_
                  refine tl_step rfl (oj_val (y_build (is := []) (vs := []) (cs := [.int .i64 0, .int .i64 0, .int .i64 0, .slice none 0 0]) rfl fel_nil (by kernel_rfl)) ?_)
                  refine tl_step rfl (oj_val (y_move (fe_t rfl)) ?_)
                  refine tl_step rfl (oj_storeW 6 Tryd.sizeOf24 (fe_t rfl) (fe_t rfl) rfl rfl rfl rfl rfl (?_))
                  refine tl_step rfl (oj_val (y_assign (fe_t rfl)) ?_)
                  refine tl_step rfl (oj_val (y_assign fe_c) ?_)
                  refine tl_nil ?_
                  refine tx_then ?_
                  refine tr_ret ?_
                  refine tx_in_ret ?_
                  refine tx_then_ret ?_
                  refine tx_in_ret ?_
                  refine tx_then_ret ?_
                  refine tx_then_ret ?_
                  refine tx_in_ret ?_
                  refine tx_then_ret ?_
                  refine tx_ret (res3 Tryd.results12 (rok_b 6 Tryd.isAgg24 Tryd.sizeOf24 rfl rfl rfl) (rok_t rfl) (rok_t rfl)) (fun w' hS => ?_)
                  exact ⟨(k, sc0, ⟨none, 0, 0, []⟩, 1), ⟨⟨rfl, rfl⟩, Nat.zero_le _, .inr ⟨rfl, rfl, rfl, hA.bad (by omega) hb10 (by rw [hgl]; exact hbad)⟩⟩, rfl, hS.pick [0] _ rfl (by decide)⟩
            · refine tl_skip rfl rfl rfl rfl ?_
              refine tl_skip rfl rfl rfl rfl ?_
              refine tl_skip rfl rfl rfl rfl ?_
              refine tl_step rfl (oj_val (y_pickf (fe_t rfl) fe_c) ?_)
              refine tl_step rfl (oj_val (y_assign (fe_t rfl)) ?_)
              refine tl_nil ?_
              refine tx_then ?_
              refine tr_condf (fe_t rfl) ?_
              refine tr_seq ?_
              refine tr_region ?_
              refine tl_step rfl (oj_val (y_move (fe_t rfl)) ?_)
              refine tl_step rfl (oj_val (y_gtr (fe_t rfl) fe_c) ?_)
              refine tl_step rfl (oj_val (y_move (fe_t rfl)) ?_)
              refine tl_splitp (d := 92) rfl (fun hq19 => ?_) (fun hq20 => ?_)
              · exfalso; omega
              · refine tl_skip rfl rfl rfl rfl ?_
                refine tl_step rfl (oj_val (y_pickf (fe_t rfl) fe_c) ?_)
                refine tl_step rfl (oj_val (y_move (fe_t rfl)) ?_)
                refine tl_skip rfl rfl rfl rfl ?_
                refine tl_skip rfl rfl rfl rfl ?_
                refine tl_step rfl (oj_val (y_pickf (fe_t rfl) fe_c) ?_)
                refine tl_step rfl (oj_val (y_move (fe_t rfl)) ?_)
                refine tl_skip rfl rfl rfl rfl ?_
                refine tl_skip rfl rfl rfl rfl ?_
                refine tl_skip rfl rfl rfl rfl ?_
                refine tl_step rfl (oj_val (y_pickf (fe_t rfl) fe_c) ?_)
                refine tl_step rfl (oj_val (y_assign (fe_t rfl)) ?_)
                refine tl_nil ?_
                refine tx_then ?_
                refine tr_condf (fe_t rfl) ?_
                refine tr_seq ?_
                have hbad : read k s l = none := rd_0 (hall.1 (by assumption)) (by omega) (.inl (by assumption))
                refine tr_add (r := vec 52 2 (.slice none 0 0) 0 []) vec_nil rfl ?_
                refine tr_region ?_
                refine tl_step rfl (oj_val (y_build (is := []) (vs := []) (cs := [.int .i64 0, .int .i64 0, .int .i64 0, .slice none 0 0]) rfl fel_nil (by kernel_rfl)) ?_)
                refine tl_step rfl (oj_val (y_move (fe_t rfl)) ?_)
                refine tl_step rfl (oj_storeW 6 Tryd.sizeOf24 (fe_t rfl) (fe_t rfl) rfl rfl rfl rfl rfl (?_))
                refine tl_step rfl (oj_val (y_assign (fe_t rfl)) ?_)
                refine tl_step rfl (oj_val (y_assign fe_c) ?_)
                refine tl_nil ?_
                refine tx_then ?_
                refine tr_ret ?_
                refine tx_in_ret ?_
                refine tx_then_ret ?_
                refine tx_in_ret ?_
                refine tx_then_ret ?_
                refine tx_then_ret ?_
                refine tx_in_ret ?_
                refine tx_then_ret ?_
                refine tx_ret (res3 Tryd.results12 (rok_b 6 Tryd.isAgg24 Tryd.sizeOf24 rfl rfl rfl) (rok_t rfl) (rok_t rfl)) (fun w' hS => ?_)
                exact ⟨(k, sc0, ⟨none, 0, 0, []⟩, 1), ⟨⟨rfl, rfl⟩, Nat.zero_le _, .inr ⟨rfl, rfl, rfl, hA.bad (by omega) hb10 (by rw [hgl]; exact hbad)⟩⟩, rfl, hS.pick [0] _ rfl (by decide)⟩
          · refine tl_skip rfl rfl rfl rfl ?_
            refine tl_skip rfl rfl rfl rfl ?_
            refine tl_skip rfl rfl rfl rfl ?_
            refine tl_skip rfl rfl rfl rfl ?_
            refine tl_step rfl (oj_val (y_pickf (fe_t rfl) fe_c) ?_)
            refine tl_step rfl (oj_val (y_move (fe_t rfl)) ?_)
            refine tl_skip rfl rfl rfl rfl ?_
            refine tl_skip rfl rfl rfl rfl ?_
            refine tl_skip rfl rfl rfl rfl ?_
            refine tl_step rfl (oj_val (y_pickf (fe_t rfl) fe_c) ?_)
            refine tl_step rfl (oj_val (y_assign (fe_t rfl)) ?_)
            refine tl_nil ?_
            refine tx_then ?_
            refine tr_condf (fe_t rfl) ?_
            refine tr_seq ?_
            refine tr_region ?_
            refine tl_step rfl (oj_val (y_move (fe_t rfl)) ?_)
            refine tl_step rfl (oj_val (y_gtr (fe_t rfl) fe_c) ?_)
            refine tl_step rfl (oj_val (y_move (fe_t rfl)) ?_)
            refine tl_splitp (d := 92) rfl (fun hq21 => ?_) (fun hq22 => ?_)
            · exfalso; omega
            · refine tl_skip rfl rfl rfl rfl ?_
              refine tl_step rfl (oj_val (y_pickf (fe_t rfl) fe_c) ?_)
              refine tl_step rfl (oj_val (y_move (fe_t rfl)) ?_)
              refine tl_skip rfl rfl rfl rfl ?_
              refine tl_skip rfl rfl rfl rfl ?_
              refine tl_step rfl (oj_val (y_pickf (fe_t rfl) fe_c) ?_)
              refine tl_step rfl (oj_val (y_move (fe_t rfl)) ?_)
              refine tl_skip rfl rfl rfl rfl ?_
              refine tl_skip rfl rfl rfl rfl ?_
              refine tl_skip rfl rfl rfl rfl ?_
              refine tl_step rfl (oj_val (y_pickf (fe_t rfl) fe_c) ?_)
              refine tl_step rfl (oj_val (y_assign (fe_t rfl)) ?_)
              refine tl_nil ?_
              refine tx_then ?_
              refine tr_condf (fe_t rfl) ?_
              refine tr_seq ?_
              have hbad : read k s l = none := rd_no hall.2 (by assumption)
              refine tr_add (r := vec 52 2 (.slice none 0 0) 0 []) vec_nil rfl ?_
              refine tr_region ?_
              refine tl_step rfl (oj_val (y_build (is := []) (vs := []) (cs := [.int .i64 0, .int .i64 0, .int .i64 0, .slice none 0 0]) rfl fel_nil (by kernel_rfl)) ?_)
              refine tl_step rfl (oj_val (y_move (fe_t rfl)) ?_)
              refine tl_step rfl (oj_storeW 6 Tryd.sizeOf24 (fe_t rfl) (fe_t rfl) rfl rfl rfl rfl rfl (?_))
              refine tl_step rfl (oj_val (y_assign (fe_t rfl)) ?_)
              refine tl_step rfl (oj_val (y_assign fe_c) ?_)
              refine tl_nil ?_
              refine tx_then ?_
              refine tr_ret ?_
              refine tx_in_ret ?_
              refine tx_then_ret ?_
              refine tx_in_ret ?_
              refine tx_then_ret ?_
              refine tx_then_ret ?_
              refine tx_in_ret ?_
              refine tx_then_ret ?_
              refine tx_ret (res3 Tryd.results12 (rok_b 6 Tryd.isAgg24 Tryd.sizeOf24 rfl rfl rfl) (rok_t rfl) (rok_t rfl)) (fun w' hS => ?_)
              exact ⟨(k, sc0, ⟨none, 0, 0, []⟩, 1), ⟨⟨rfl, rfl⟩, Nat.zero_le _, .inr ⟨rfl, rfl, rfl, hA.bad (by omega) hb10 (by rw [hgl]; exact hbad)⟩⟩, rfl, hS.pick [0] _ rfl (by decide)⟩
        · refine tl_skip rfl rfl rfl rfl ?_
          refine tl_step rfl (oj_val (y_pickf (fe_t rfl) fe_c) ?_)
          refine tl_step rfl (oj_val (y_move (fe_t rfl)) ?_)
          refine tl_skip rfl rfl rfl rfl ?_
          refine tl_skip rfl rfl rfl rfl ?_
          refine tl_skip rfl rfl rfl rfl ?_
          refine tl_skip rfl rfl rfl rfl ?_
          refine tl_step rfl (oj_val (y_pickf (fe_t rfl) fe_c) ?_)
          refine tl_step rfl (oj_val (y_move (fe_t rfl)) ?_)
          refine tl_skip rfl rfl rfl rfl ?_
          refine tl_skip rfl rfl rfl rfl ?_
          refine tl_skip rfl rfl rfl rfl ?_
          refine tl_step rfl (oj_val (y_pickf (fe_t rfl) fe_c) ?_)
          refine tl_step rfl (oj_val (y_assign (fe_t rfl)) ?_)
          refine tl_nil ?_
          refine tx_then ?_
          refine tr_condf (fe_t rfl) ?_
          refine tr_seq ?_
          refine tr_region ?_
          refine tl_step rfl (oj_val (y_move (fe_t rfl)) ?_)
          refine tl_step rfl (oj_val (y_gtr (fe_t rfl) fe_c) ?_)
          refine tl_step rfl (oj_val (y_move (fe_t rfl)) ?_)
          refine tl_splitp (d := 92) rfl (fun hq23 => ?_) (fun hq24 => ?_)
          · refine tl_want rfl rfl rfl (oj_val (y_move (fe_t rfl)) ?_)
            refine tl_step rfl (oj_val (y_pickt (fe_t rfl) (fe_t rfl)) ?_)
            refine tl_step rfl (oj_val (y_move (fe_t rfl)) ?_)
            refine tl_split (d := 95) rfl (fun hq25 => ?_) (fun hq26 => ?_)
            · refine tl_want rfl rfl rfl (oj_val (y_move (fe_t rfl)) ?_)
              refine tl_want rfl rfl rfl (oj_val (y_gtr (fe_t rfl) fe_c) ?_)
              refine tl_step rfl (oj_val (y_pickt (fe_t rfl) (fe_t rfl)) ?_)
              refine tl_step rfl (oj_val (y_move (fe_t rfl)) ?_)
              refine tl_splitp (d := 99) rfl (fun hq27 => ?_) (fun hq28 => ?_)
              · refine tl_want rfl rfl rfl (oj_val (y_move (fe_t rfl)) ?_)
                refine tl_want rfl rfl rfl (oj_val (y_len Tryd.underlying39 (fe_t rfl)) ?_)
                refine tl_want rfl rfl rfl (oj_val (y_eq (fe_t rfl) fe_c) ?_)
                refine tl_step rfl (oj_val (y_pickt (fe_t rfl) (fe_t rfl)) ?_)
                refine tl_step rfl (oj_val (y_assign (fe_t rfl)) ?_)
                refine tl_nil ?_
                refine tx_then ?_
                refine tr_condp (fe_t rfl) (fun hq29 => ?_) (fun hq30 => ?_)
                · obtain ⟨ms, hms1, hms2⟩ := hall.1 (by assumption)
                  refine tb_draw 8 (sel _ [0, 1, 2, 5]) (fun w h => h.sel _ rfl (by decide)) rfl ?_
                  refine tb_float (i := 0) rfl (by kernel_rfl) rfl (wants_none rfl) (yq_of (y_fieldAddr (td := 22) Tryd.underlying24 rfl rfl Tryd.sizeOf22 (o' := 3) rfl (fe_t rfl))) ?_
                  refine tb_float1 (i := 1) rfl (by kernel_rfl) (by kernel_rfl) rfl (wants_none rfl) (yq_of (y_ldb 4 Tryd.isAgg22 (fe_t rfl) rfl rfl)) ?_
                  refine tb_float (i := 2) rfl (by kernel_rfl) rfl (wants_none rfl) (yq_of (y_move (fe_t rfl))) ?_
                  refine tb_float (i := 3) rfl (by kernel_rfl) rfl (wants_none rfl) (yq_of (y_move (fe_t rfl))) ?_
                  refine tb_float (i := 4) rfl (by kernel_rfl) rfl (wants_none rfl) (yq_of (y_indexI (m := 0) Tryd.underlying39 Tryd.sizeOf3 (fe_t rfl) fe_c (rdl_vec 0 rfl) (by rw [hyx, List.length_map]; omega) (by decide) (by decide) (by omega) rfl)) ?_
                  refine tb_float (i := 5) rfl (by kernel_rfl) rfl (wants_none rfl) (yq_of (y_ld Tryd.isAgg3 (fe_t rfl) (rdl_vec 0 rfl) (by rw [hyx]; exact getN hms2 (by omega)))) ?_
                  refine tb_float (i := 6) rfl (by kernel_rfl) rfl (wants_none rfl) (yq_of ((fun {u0 u1} hx hb => y_build (is := [0, 1]) (vs := [u0, u1]) (cs := [u0, u1]) rfl hx hb) (fel_cons (fe_t rfl) (fel_cons (fe_t rfl) fel_nil)) (by kernel_rfl))) ?_
                  refine tb_one1 (i := 7) rfl (by kernel_rfl) (by kernel_rfl) (wants_none rfl) (oj_slice1 Tryd.underlying22 Tryd.sizeOf52 Tryd.zeroValue52 (fe_t rfl) (by decide) rfl (fun b2 => ⟨fun w h => h.pick [1, 2, 3, 4, 5, 6] _ rfl (by decide), ?_⟩))
                  refine tb_one2 (i := 8) rfl (by kernel_rfl) (by kernel_rfl) (wants_none rfl) (oj_append (i := 4) (s := 2) (z := (.agg #[.int .i64 0, .int .i64 0])) (bytes := 16) Tryd.underlying22 (by kernel_rfl) (fe_t rfl) (fe_t rfl) rfl (rdl_blk 0 rfl) rfl (by decide) (by first | exact oneI | exact oneF (fun _ => rfl) | exact fun u hu => List.all_eq_true.1 (show List.all _ (fun x => x.oneCell') = true from rfl) u hu | (intro u hu; revert u hu; simp [Value.oneCell'])) (by decide) ⟨by omega, by decide⟩ (fun Aa2 ca2 hca2 => ⟨fun w h => h.pick [1, 2, 3, 6] _ rfl (by decide), ?_⟩))
                  refine tb_float (i := 9) rfl (by kernel_rfl) rfl (wants_none rfl) (yq_of (y_fieldAddr (td := 22) Tryd.underlying24 rfl rfl Tryd.sizeOf22 (o' := 3) rfl (fe_t rfl))) ?_
                  refine tb_one2 (i := 10) rfl (by kernel_rfl) (by kernel_rfl) (wants_none rfl) (oj_store1 5 Tryd.sizeOf22 (fe_t rfl) (fe_t rfl) rfl rfl rfl rfl (⟨fun w h => h.pick [1, 2, 3, 6] _ rfl (by decide), ?_⟩))
                  refine tb_done (by kernel_rfl) ?_
                  refine tx_in ?_
                  refine tx_then ?_
                  refine tr_region ?_
                  refine tl_step rfl (oj_val (y_move (fe_t rfl)) ?_)
                  refine tl_step rfl (oj_val (y_inc (fe_t rfl) fe_c (by omega)) ?_)
                  refine tl_step rfl (oj_val (y_move (fe_t rfl)) ?_)
                  refine tl_step rfl (oj_val (y_inc (fe_t rfl) fe_c (by omega)) ?_)
                  refine tl_step rfl (oj_val (y_assign (fe_t rfl)) ?_)
                  refine tl_step rfl (oj_val (y_assign (fe_t rfl)) ?_)
                  refine tl_nil ?_
                  refine tx_in ?_
                  refine tx_then ?_
                  refine tr_region ?_
                  refine tl_step rfl (oj_val (y_inc (fe_t rfl) fe_c (by omega)) ?_)
                  refine tl_step rfl (oj_val (y_move (fe_t rfl)) ?_)
                  refine tl_nil ?_
                  apply tx_back5 (i + 1) (k + 1) (i + 1) ({ s with ops := s.ops ++ [(kindOf ((wds 32 l).getD 0 []), nAt ns 0)] }) ((⟨_, _, _, _⟩ : Vs))
                  · exact (cov_cons (by first | rfl | exact v_int (by omega) | exact v_bool (by simp [*])) (cov_cons (by first | rfl | exact v_int (by omega) | exact v_bool (by simp [*])) (cov_cons (by first | rfl | exact v_int (by omega) | exact v_bool (by simp [*])) (cov_nil))))
                  · repeat (first | exact over_nil | refine over_put rfl ?_ | refine over_drop rfl ?_)
                  · exact fun w h => h.pick [4, 5, 6] _ rfl (by decide)
                  · exact ⟨⟨hA.next (by omega) hb10 (by rw [hgl]; exact rd_1ok ⟨ms, hms1, hms2⟩ (by omega) (by omega) (by omega)), ⟨by dsimp only; rw [hz.1]; simp, by dsimp only; rw [hz.2]; simp [c2]; rfl⟩⟩, by omega⟩
                · refine tr_seq ?_
                  have hbad : read k s l = none := rd_1 (hall.1 (by assumption)) (by omega) (.inr (by omega))
                  refine tr_add (r := vec 52 2 (.slice none 0 0) 0 []) vec_nil rfl ?_
                  refine tr_region ?_
                  refine tl_step rfl (oj_val (y_build (is := []) (vs := []) (cs := [.int .i64 0, .int .i64 0, .int .i64 0, .slice none 0 0]) rfl fel_nil (by kernel_rfl)) ?_)
                  refine tl_step rfl (oj_val (y_move (fe_t rfl)) ?_)
                  refine tl_step rfl (oj_storeW 6 Tryd.sizeOf24 (fe_t rfl) (fe_t rfl) rfl rfl rfl rfl rfl (?_))
                  refine tl_step rfl (oj_val (y_assign (fe_t rfl)) ?_)
                  refine tl_step rfl (oj_val (y_assign fe_c) ?_)
                  refine tl_nil ?_
                  refine tx_then ?_
                  refine tr_ret ?_
                  refine tx_in_ret ?_
                  refine tx_then_ret ?_
                  refine tx_in_ret ?_
                  refine tx_then_ret ?_
                  refine tx_then_ret ?_
                  refine tx_in_ret ?_
                  refine tx_then_ret ?_
                  refine tx_ret (res3 Tryd.results12 (rok_b 6 Tryd.isAgg24 Tryd.sizeOf24 rfl rfl rfl) (rok_t rfl) (rok_t rfl)) (fun w' hS => ?_)
                  exact ⟨(k, sc0, ⟨none, 0, 0, []⟩, 1), ⟨⟨rfl, rfl⟩, Nat.zero_le _, .inr ⟨rfl, rfl, rfl, hA.bad (by omega) hb10 (by rw [hgl]; exact hbad)⟩⟩, rfl, hS.pick [0] _ rfl (by decide)⟩
              · refine tl_skip rfl rfl rfl rfl ?_
                refine tl_skip rfl rfl rfl rfl ?_
                refine tl_skip rfl rfl rfl rfl ?_
                refine tl_step rfl (oj_val (y_pickf (fe_t rfl) fe_c) ?_)
                refine tl_step rfl (oj_val (y_assign (fe_t rfl)) ?_)
                refine tl_nil ?_
                refine tx_then ?_
                refine tr_condf (fe_t rfl) ?_
                refine tr_seq ?_
                have hbad : read k s l = none := rd_1 (hall.1 (by assumption)) (by omega) (.inl (by omega))
                refine tr_add (r := vec 52 2 (.slice none 0 0) 0 []) vec_nil rfl ?_
                refine tr_region ?_
                refine tl_step rfl (oj_val (y_build (is := []) (vs := []) (cs := [.int .i64 0, .int .i64 0, .int .i64 0, .slice none 0 0]) rfl fel_nil (by kernel_rfl)) ?_)
                refine tl_step rfl (oj_val (y_move (fe_t rfl)) ?_)
                refine tl_step rfl (oj_storeW 6 Tryd.sizeOf24 (fe_t rfl) (fe_t rfl) rfl rfl rfl rfl rfl (?_))
                refine tl_step rfl (oj_val (y_assign (fe_t rfl)) ?_)
                refine tl_step rfl (oj_val (y_assign fe_c) ?_)
                refine tl_nil ?_
                refine tx_then ?_
                refine tr_ret ?_
                refine tx_in_ret ?_
                refine tx_then_ret ?_
                refine tx_in_ret ?_
                refine tx_then_ret ?_
                refine tx_then_ret ?_
                refine tx_in_ret ?_
                refine tx_then_ret ?_
                refine tx_ret (res3 Tryd.results12 (rok_b 6 Tryd.isAgg24 Tryd.sizeOf24 rfl rfl rfl) (rok_t rfl) (rok_t rfl)) (fun w' hS => ?_)
                exact ⟨(k, sc0, ⟨none, 0, 0, []⟩, 1), ⟨⟨rfl, rfl⟩, Nat.zero_le _, .inr ⟨rfl, rfl, rfl, hA.bad (by omega) hb10 (by rw [hgl]; exact hbad)⟩⟩, rfl, hS.pick [0] _ rfl (by decide)⟩
            · refine tl_skip rfl rfl rfl rfl ?_
              refine tl_skip rfl rfl rfl rfl ?_
              refine tl_step rfl (oj_val (y_pickf (fe_t rfl) fe_c) ?_)
              refine tl_step rfl (oj_val (y_move (fe_t rfl)) ?_)
              refine tl_skip rfl rfl rfl rfl ?_
              refine tl_skip rfl rfl rfl rfl ?_
              refine tl_skip rfl rfl rfl rfl ?_
              refine tl_step rfl (oj_val (y_pickf (fe_t rfl) fe_c) ?_)
              refine tl_step rfl (oj_val (y_assign (fe_t rfl)) ?_)
              refine tl_nil ?_
              refine tx_then ?_
              refine tr_condf (fe_t rfl) ?_
              refine tr_seq ?_
              have hbad : read k s l = none := rd_no hall.2 (by assumption)
              refine tr_add (r := vec 52 2 (.slice none 0 0) 0 []) vec_nil rfl ?_
              refine tr_region ?_
              refine tl_step rfl (oj_val (y_build (is := []) (vs := []) (cs := [.int .i64 0, .int .i64 0, .int .i64 0, .slice none 0 0]) rfl fel_nil (by kernel_rfl)) ?_)
              refine tl_step rfl (oj_val (y_move (fe_t rfl)) ?_)
              refine tl_step rfl (oj_storeW 6 Tryd.sizeOf24 (fe_t rfl) (fe_t rfl) rfl rfl rfl rfl rfl (?_))
              refine tl_step rfl (oj_val (y_assign (fe_t rfl)) ?_)
              refine tl_step rfl (oj_val (y_assign fe_c) ?_)
              refine tl_nil ?_
              refine tx_then ?_
              refine tr_ret ?_
              refine tx_in_ret ?_
              refine tx_then_ret ?_
              refine tx_in_ret ?_
              refine tx_then_ret ?_
              refine tx_then_ret ?_
              refine tx_in_ret ?_
              refine tx_then_ret ?_
              refine tx_ret (res3 Tryd.results12 (rok_b 6 Tryd.isAgg24 Tryd.sizeOf24 rfl rfl rfl) (rok_t rfl) (rok_t rfl)) (fun w' hS => ?_)
              exact ⟨(k, sc0, ⟨none, 0, 0, []⟩, 1), ⟨⟨rfl, rfl⟩, Nat.zero_le _, .inr ⟨rfl, rfl, rfl, hA.bad (by omega) hb10 (by rw [hgl]; exact hbad)⟩⟩, rfl, hS.pick [0] _ rfl (by decide)⟩
          · exfalso; omega
  · refine tr_exit ?_
    refine tx_then_exit ?_
    refine tx_then_exit ?_
    refine tx_in_exit ?_
    refine tx_then ?_
    refine tr_seq ?_
    refine tr_seq ?_
    refine tr_region ?_
    refine tl_step rfl (oj_val (y_move (fe_t rfl)) ?_)
    refine tl_step rfl (oj_val (y_move (fe_t rfl)) ?_)
    refine tl_step rfl (oj_val (y_slen Tryd.underlying9 (fe_t rfl)) ?_)
    refine tl_step rfl (oj_val (y_lss (fe_t rfl) (fe_t rfl)) ?_)
    refine tl_step rfl (oj_val (y_move (fe_t rfl)) ?_)
    refine tl_splitp (d := 123) rfl (fun hq31 => ?_) (fun hq32 => ?_)
    · refine tl_skip rfl rfl rfl rfl ?_
      refine tl_skip rfl rfl rfl rfl ?_
      refine tl_step rfl (oj_val (y_pickt (fe_t rfl) fe_c) ?_)
      refine tl_nil ?_
      refine tx_then ?_
      refine tr_condt (fe_t rfl) ?_
      refine tr_seq ?_
      refine tr_add (r := vec 52 2 (.slice none 0 0) 0 []) vec_nil rfl ?_
      refine tr_region ?_
      refine tl_step rfl (oj_val (y_build (is := []) (vs := []) (cs := [.int .i64 0, .int .i64 0, .int .i64 0, .slice none 0 0]) rfl fel_nil (by kernel_rfl)) ?_)
      refine tl_step rfl (oj_val (y_move (fe_t rfl)) ?_)
      refine tl_step rfl (oj_storeW 3 Tryd.sizeOf24 (fe_t rfl) (fe_t rfl) rfl rfl rfl rfl rfl (?_))
      refine tl_step rfl (oj_val (y_assign (fe_t rfl)) ?_)
      refine tl_step rfl (oj_val (y_assign fe_c) ?_)
      refine tl_nil ?_
      refine tx_then ?_
      refine tr_ret ?_
      refine tx_then_ret ?_
      refine tx_ret (res3 Tryd.results12 (rok_b 3 Tryd.isAgg24 Tryd.sizeOf24 rfl rfl rfl) (rok_t rfl) (rok_t rfl)) (fun w' hS => ?_)
      exact ⟨(k, sc0, ⟨none, 0, 0, []⟩, 1), ⟨⟨rfl, rfl⟩, Nat.zero_le _, .inr ⟨rfl, rfl, rfl, hA.short (by omega) (by omega)⟩⟩, rfl, hS.pick [0] _ rfl (by decide)⟩
    · refine tl_want rfl rfl rfl (oj_val (y_move (fe_t rfl)) ?_)
      refine tl_want rfl rfl rfl (oj_val (y_eq (fe_t rfl) fe_c) ?_)
      refine tl_step rfl (oj_val (y_pickf (fe_t rfl) (fe_t rfl)) ?_)
      refine tl_nil ?_
      refine tx_then ?_
      refine tr_condp (fe_t rfl) (fun hq33 => ?_) (fun hq34 => ?_)
      · refine tr_seq ?_
        refine tr_add (r := vec 52 2 (.slice none 0 0) 0 []) vec_nil rfl ?_
        refine tr_region ?_
        refine tl_step rfl (oj_val (y_build (is := []) (vs := []) (cs := [.int .i64 0, .int .i64 0, .int .i64 0, .slice none 0 0]) rfl fel_nil (by kernel_rfl)) ?_)
        refine tl_step rfl (oj_val (y_move (fe_t rfl)) ?_)
        refine tl_step rfl (oj_storeW 3 Tryd.sizeOf24 (fe_t rfl) (fe_t rfl) rfl rfl rfl rfl rfl (?_))
        refine tl_step rfl (oj_val (y_assign (fe_t rfl)) ?_)
        refine tl_step rfl (oj_val (y_assign fe_c) ?_)
        refine tl_nil ?_
        refine tx_then ?_
        refine tr_ret ?_
        refine tx_then_ret ?_
        refine tx_ret (res3 Tryd.results12 (rok_b 3 Tryd.isAgg24 Tryd.sizeOf24 rfl rfl rfl) (rok_t rfl) (rok_t rfl)) (fun w' hS => ?_)
        exact ⟨(k, sc0, ⟨none, 0, 0, []⟩, 1), ⟨⟨rfl, rfl⟩, Nat.zero_le _, .inr ⟨rfl, rfl, rfl, hA.short (by omega) (by omega)⟩⟩, rfl, hS.pick [0] _ rfl (by decide)⟩
      · refine tr_skip ?_
        refine tx_then ?_
        refine tr_seq ?_
        refine tr_region ?_
        refine tl_step rfl (oj_val (y_ldbA 1 Tryd.isAgg24 Tryd.sizeOf24 (fe_t rfl) rfl rfl rfl) ?_)
        refine tl_step rfl (oj_storeW 2 Tryd.sizeOf24 (fe_t rfl) (fe_t rfl) rfl rfl rfl rfl rfl (?_))
        refine tl_step rfl (oj_val (y_assign fe_c) ?_)
        refine tl_step rfl (oj_val (y_assign fe_c) ?_)
        refine tl_nil ?_
        refine tx_then ?_
        refine tr_ret ?_
        refine tx_ret (res3 Tryd.results12 (rok_b 2 Tryd.isAgg24 Tryd.sizeOf24 rfl rfl rfl) (rok_t rfl) (rok_t rfl)) (fun w' hS => ?_)
        have h1 := hA.ho
        have h2 := hA.hk
        have h3 := hA.hi
        exact ⟨(0, s, z, 0), ⟨hz, show s.ops.length ≤ t.length by omega, .inl ⟨rfl, rfl, hA.whole (by omega) (by omega) (by omega)⟩⟩, rfl, hS.pick [0] _ rfl (by decide)⟩

end Go.Proofs.YtfcpmcdlgkfolaaDoor.Bn

namespace Go.Proofs.YtfcpmcdlgkfolaaDoor.Bn
open Go.RowKit Go.Lib Go.Proofs.YtfcpmcdlgkfolaaDoor.E

theorem neq_op {x y : Operand} (a b : Int) (w : World) : (do eqGuard .neq 52 x y (.agg #[(.int .i64 a), (.int .i64 b)]) (.agg #[(.int .i64 a), (.int .i64 b)]); binOp .neq 52 (.agg #[(.int .i64 a), (.int .i64 b)]) (.agg #[(.int .i64 a), (.int .i64 b)]) : Sem Value).run Tryd.prog w = .ok (.bool false) w := by
  have e1 : ∀ x y, Op.equal 52 x y = Op.equalIn (9998 + 1 + 1) 52 x y := fun _ _ => rfl
  simp [eqGuard, binOp, e1, go_sem]
abbrev PIs (t : List UInt8) (q : Nat × Sc × Vs × Nat) : Prop := OpsIs q.2.2.1 q.2.1.ops ∧ q.2.1.ops.length ≤ t.length ∧ ((q.2.2.2 = 0 ∧ q.1 = 0 ∧ parse t = (0, some q.2.1)) ∨ (q.2.2.2 = 1 ∧ q.2.1 = sc0 ∧ q.2.2.1.A = none ∧ parse t = (q.1, none)))
theorem same_parse {t : List UInt8} {p q : Nat × Sc × Vs × Nat} (h1 : PIs t p) (h2 : PIs t q) : p.1 = q.1 ∧ p.2.1 = q.2.1 ∧ p.2.2.2 = q.2.2.2 := by
  rcases h1.2.2 with ⟨a1, a2, a3⟩ | ⟨a1, a2, _, a3⟩ <;> rcases h2.2.2 with ⟨b1, b2, b3⟩ | ⟨b1, b2, _, b3⟩ <;> rw [a3] at b3
  · exact ⟨a2.trans b2.symm, Option.some.inj (Prod.mk.inj b3).2, a1.trans b1.symm⟩
  · cases (Prod.mk.inj b3).2
  · cases (Prod.mk.inj b3).2
  · exact ⟨(Prod.mk.inj b3).1, a2.trans b2.symm, a1.trans b1.symm⟩
theorem c2_len (l : List (Nat × Nat)) : (l.flatMap c2).length = l.length * 2 := by
  induction l with
  | nil => rfl
  | cons a l ih => rw [List.flatMap_cons, List.length_append, ih]; simp [c2]; omega
theorem ops_rd {w0 w : World} {L : List Res} {z : Vs} {ops : List (Nat × Nat)} (hS : St w0 w L) (i : Nat) (hi : lget L i = some (vec 52 2 (.slice z.A z.n z.c) z.n z.xs)) (hz : OpsIs z ops) : Rd w z.A (ops.flatMap c2) := by
  have := (OwnV.rd (hS.holds i _ hi)).2.2
  rwa [hz.2] at this
end Go.Proofs.YtfcpmcdlgkfolaaDoor.Bn
