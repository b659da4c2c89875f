/- Walks: slices.Equal, SameLists, where both are the same. -/
import Derived.Test.YtfcpmcdlgkfolaaDoorZsEA
namespace Go.Proofs.YtfcpmcdlgkfolaaDoor.E
open Go.RowKit

set_option maxRecDepth 100000 in
theorem eq_ints (A B : Option Addr) (n c d : Nat) (zs : List Int) (w : World) (h1 : Rd w A (zs.map (.int .i64))) (h2 : Rd w B (zs.map (.int .i64))) (hn : zs.length = n) (hm : n ≤ 140737488355328) :
    Calls Tryd.prog 33 #[.slice A n c, .slice B n d] w fun e w' => e = .returned (.bool true) ∧ St w w' [] := by
  refine calls_tr Tryd.func33 Tryd.ntmps33 rfl rfl (St.refl _) ?_
  refine tr_seq ?_
  refine tr_region ?_
  refine tl_step rfl (oj_val (y_assign fe_c) ?_)
  refine tl_nil ?_
  refine tx_then ?_
  refine tr_seq ?_
  refine tr_seq ?_
  refine tr_region ?_
  refine tl_step rfl (oj_val (y_move (fe_t rfl)) ?_)
  refine tl_step rfl (oj_val (y_len Tryd.underlying39 (fe_t rfl)) ?_)
  refine tl_step rfl (oj_val (y_move (fe_t rfl)) ?_)
  refine tl_step rfl (oj_val (y_len Tryd.underlying39 (fe_t rfl)) ?_)
  refine tl_step rfl (oj_val (y_neq (fe_t rfl) (fe_t rfl)) ?_)
  refine tl_nil ?_
  refine tx_then ?_
  refine tr_condp (fe_t rfl) (fun hq1 => ?_) (fun hq2 => ?_)
  · exact absurd rfl hq1
  · refine tr_skip ?_
    refine tx_then ?_
    refine tr_seq ?_
    refine tr_seq ?_
    refine tr_region ?_
    refine tl_step rfl (oj_val (y_move (fe_t rfl)) ?_)
    refine tl_step rfl (oj_val (y_len Tryd.underlying39 (fe_t rfl)) ?_)
    refine tl_step rfl (oj_val (y_move fe_c) ?_)
    refine tl_nil ?_
    refine tx_then ?_
    refine tr_block ?_
    refine tr_loop1 [4, 5, 13, 14, 15, 16, 17, 18, 19, 20, 21, 22, 23, 24, 25] (fun (k : Nat) => [(13, .int .i64 (k : Int))]) 0 (fun (k : Nat) => []) (fun (k : Nat) => k ≤ n) (fun (k : Nat) => n - k) (0) (cov_cons (by first | rfl | exact v_int (by omega) | exact v_bool (by simp [*])) (cov_nil)) (fun w h => h) ?_ ?_
    · try dsimp only
      omega
    intro k hp
    refine tr_seq ?_
    refine tr_region ?_
    refine tl_step rfl (oj_val (y_lss (fe_t rfl) (fe_t rfl)) ?_)
    refine tl_nil ?_
    refine tx_then ?_
    refine tr_seq ?_
    refine tr_condp (fe_t rfl) (fun hq3 => ?_) (fun hq4 => ?_)
    · refine tr_skip ?_
      refine tx_then ?_
      refine tr_seq ?_
      refine tr_block ?_
      refine tr_seq ?_
      refine tr_region ?_
      refine tl_step rfl (oj_val (y_move (fe_t rfl)) ?_)
      refine tl_step rfl (oj_val (y_assign (fe_t rfl)) ?_)
      refine tl_nil ?_
      refine tx_then ?_
      refine tr_seq ?_
      refine tr_draw (sel _ []) (fun w h => h.sel _ rfl (by decide)) rfl ?_
      refine ta_float (i := 0) rfl (by kernel_rfl) (wants_none rfl) (yq_of (y_move (fe_t rfl))) ?_
      refine ta_float (i := 1) rfl (by kernel_rfl) (wants_none rfl) (yq_of (y_move (fe_t rfl))) ?_
      refine ta_float (i := 2) rfl (by kernel_rfl) (wants_none rfl) (yq_of (y_index Tryd.underlying39 Tryd.sizeOf3 (fe_t rfl) (fe_t rfl) (rdl_out h1) (by first | (simp; done) | (simp; omega)) (by decide) (by omega) (Nat.mul_one _))) ?_
      refine ta_float (i := 3) rfl (by kernel_rfl) (wants_none rfl) (yq_of (y_ld Tryd.isAgg3 (fe_t rfl) (rdl_out h1) (getI (by omega)))) ?_
      refine ta_float (i := 4) rfl (by kernel_rfl) (wants_none rfl) (yq_of (y_move (fe_t rfl))) ?_
      refine ta_float (i := 5) rfl (by kernel_rfl) (wants_none rfl) (yq_of (y_move (fe_t rfl))) ?_
      refine ta_float (i := 6) rfl (by kernel_rfl) (wants_none rfl) (yq_of (y_index Tryd.underlying39 Tryd.sizeOf3 (fe_t rfl) (fe_t rfl) (rdl_out h2) (by first | (simp; done) | (simp; omega)) (by decide) (by omega) (Nat.mul_one _))) ?_
      refine ta_float (i := 7) rfl (by kernel_rfl) (wants_none rfl) (yq_of (y_ld Tryd.isAgg3 (fe_t rfl) (rdl_out h2) (getI (by omega)))) ?_
      refine ta_float (i := 8) rfl (by kernel_rfl) (wants_none rfl) (yq_of (y_neq (fe_t rfl) (fe_t rfl))) ?_
      refine ta_done (by kernel_rfl) ?_
      refine tx_then ?_
      refine tr_condp (fe_t rfl) (fun hq5 => ?_) (fun hq6 => ?_)
      · exact absurd rfl hq5
      · refine tr_skip ?_
        refine tx_in ?_
        refine tx_then ?_
        refine tr_region ?_
        refine tl_step rfl (oj_val (y_inc (fe_t rfl) fe_c (by omega)) ?_)
        refine tl_step rfl (oj_val (y_move (fe_t rfl)) ?_)
        refine tl_nil ?_
        apply tx_back1 (k + 1)
        · exact (cov_cons (by first | rfl | exact v_int (by omega) | exact v_bool (by simp [*])) (cov_nil))
        · repeat (first | exact over_nil | refine over_put rfl ?_ | refine over_drop rfl ?_)
        · exact fun w h => h.pick [] _ rfl (by decide)
        · exact ⟨by omega, by omega⟩
    · refine tr_exit ?_
      refine tx_then_exit ?_
      refine tx_then_exit ?_
      refine tx_in_exit ?_
      refine tx_then ?_
      refine tr_seq ?_
      refine tr_region ?_
      refine tl_step rfl (oj_val (y_assign fe_c) ?_)
      refine tl_nil ?_
      refine tx_then ?_
      refine tr_ret ?_
      refine tx_ret (res1 Tryd.results33 (rok_t rfl)) (fun w' hS => ?_)
      exact ⟨rfl, hS.pick [] _ rfl (by decide)⟩

end Go.Proofs.YtfcpmcdlgkfolaaDoor.E
