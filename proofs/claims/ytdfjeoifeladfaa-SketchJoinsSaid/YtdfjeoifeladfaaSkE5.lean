/- Walks for the sketch. -/
import Derived.Test.YtdfjeoifeladfaaSkE4
namespace Go.Proofs.Ytdfjeoifeladfaa.Sketch
open Go.RowKit Go.Proofs.Ytdfjeoifeladfaa.E

set_option maxRecDepth 100000 in
set_option maxHeartbeats 4000000 in
theorem sjoin_full (r x : Int) (A B : Option Addr) (n c d : Nat) (za zb : List Int) (w : World) (hr : Rd w A (za.map (.int .i64))) (hr' : Rd w B (zb.map (.int .i64))) (hn : za.length = n) (hm : zb.length = n) (va : vright r x za = true) (vb : vright r x zb = true) (hf : full za zb = true) :
    Calls Try.prog 20 #[.agg #[(.int .i64 r), (.int .i64 x), .slice A n c], .agg #[(.int .i64 r), (.int .i64 x), .slice B n d]] w fun e w' => e = .returned (.tuple #[.agg #[(.int .i64 0), (.int .i64 0), .slice none 0 0], (.int .i64 4)]) ∧ E.St w w' [] := by
  have hpos : 1 ≤ n ∧ n ≤ 512 := by
    have va' := va
    simp only [vright, Bool.and_eq_true, beq_iff_eq] at va'
    have := dims_prod va'.1.1
    omega
  refine calls_tr Try.func20 Try.ntmps20 rfl rfl (St.refl _) ?_
  refine tr_seq ?_
  refine tr_region ?_
  refine tl_step rfl (oj_box (fe_t rfl) (fun b1 => ?_))
  refine tl_step rfl (oj_box (fe_t rfl) (fun b2 => ?_))
  refine tl_step rfl (oj_alloc Try.zeroValue33 (fun b3 => ?_))
  refine tl_step rfl (oj_val (y_assign fe_c) ?_)
  refine tl_nil ?_
  refine tx_then ?_
  refine tr_seq ?_
  refine tr_seq ?_
  refine tr_region ?_
  refine tl_step rfl (oj_val (y_ldbA 2 Try.isAgg33 Try.sizeOf33 (fe_t rfl) rfl rfl rfl) ?_)
  refine tl_step rfl (oj_callv Try.call74 fe_f (fel_cons (fe_t rfl) fel_nil) (fun w' hS => of_bel (right_yes A n c w' (Rd.below hr hS.below) hn (by omega) va)) ?_)
  refine tl_step rfl (oj_val (y_not (fe_t rfl)) ?_)
  refine tl_step rfl (oj_val (y_move (fe_t rfl)) ?_)
  refine tl_want rfl rfl rfl (oj_val (y_ldbA 1 Try.isAgg33 Try.sizeOf33 (fe_t rfl) rfl rfl rfl) ?_)
  refine tl_want rfl rfl rfl (oj_callv Try.call74 fe_f (fel_cons (fe_t rfl) fel_nil) (fun w' hS => of_bel (right_yes B n d w' (Rd.below hr' hS.below) hm (by omega) vb)) ?_)
  refine tl_want rfl rfl rfl (oj_val (y_not (fe_t rfl)) ?_)
  refine tl_step rfl (oj_val (y_pickf (fe_t rfl) (fe_t rfl)) ?_)
  refine tl_step rfl (oj_val (y_move (fe_t rfl)) ?_)
  refine tl_want rfl rfl rfl (oj_val (y_fieldAddr (td := 3) Try.underlying33 rfl rfl Try.sizeOf3 (o' := 0) rfl (fe_t rfl)) ?_)
  refine tl_want rfl rfl rfl (oj_val (y_ldb 2 Try.isAgg3 (fe_t rfl) rfl rfl) ?_)
  refine tl_want rfl rfl rfl (oj_val (y_fieldAddr (td := 3) Try.underlying33 rfl rfl Try.sizeOf3 (o' := 0) rfl (fe_t rfl)) ?_)
  refine tl_want rfl rfl rfl (oj_val (y_ldb 1 Try.isAgg3 (fe_t rfl) rfl rfl) ?_)
  refine tl_want rfl rfl rfl (oj_val (y_neq (fe_t rfl) (fe_t rfl)) ?_)
  refine tl_step rfl (oj_val (y_pickf (fe_t rfl) (fe_t rfl)) ?_)
  refine tl_step rfl (oj_val (y_move (fe_t rfl)) ?_)
  refine tl_splitp (d := 23) rfl (fun hq1 => ?_) (fun hq2 => ?_)
  · try (exfalso; omega)
    all_goals
      refine tl_skip rfl rfl rfl rfl ?_
      refine tl_skip rfl rfl rfl rfl ?_
      refine tl_skip rfl rfl rfl rfl ?_
      refine tl_skip rfl rfl rfl rfl ?_
      refine tl_skip rfl rfl rfl rfl ?_
      refine tl_step rfl (oj_val (y_pickt (fe_t rfl) fe_c) ?_)
      refine tl_nil ?_
      refine tx_then ?_
      exfalso; omega
  · try (exfalso; omega)
    all_goals
      refine tl_want rfl rfl rfl (oj_val (y_fieldAddr (td := 3) Try.underlying33 rfl rfl Try.sizeOf3 (o' := 1) rfl (fe_t rfl)) ?_)
      refine tl_want rfl rfl rfl (oj_val (y_ldb 2 Try.isAgg3 (fe_t rfl) rfl rfl) ?_)
      refine tl_want rfl rfl rfl (oj_val (y_fieldAddr (td := 3) Try.underlying33 rfl rfl Try.sizeOf3 (o' := 1) rfl (fe_t rfl)) ?_)
      refine tl_want rfl rfl rfl (oj_val (y_ldb 1 Try.isAgg3 (fe_t rfl) rfl rfl) ?_)
      refine tl_want rfl rfl rfl (oj_val (y_neq (fe_t rfl) (fe_t rfl)) ?_)
      refine tl_step rfl (oj_val (y_pickf (fe_t rfl) (fe_t rfl)) ?_)
      refine tl_nil ?_
      refine tx_then ?_
      refine tr_condp (fe_t rfl) (fun hq3 => ?_) (fun hq4 => ?_)
      · exfalso; omega
      · try (exfalso; omega)
        all_goals
          refine tr_skip ?_
          refine tx_then ?_
          refine tr_seq ?_
          refine tr_region ?_
          refine tl_step rfl (oj_val (y_fieldAddr (td := 31) Try.underlying33 rfl rfl Try.sizeOf31 (o' := 2) rfl (fe_t rfl)) ?_)
          refine tl_step rfl (oj_val (y_ldb 2 Try.isAgg31 (fe_t rfl) rfl rfl) ?_)
          refine tl_step rfl (oj_call Try.call75 fe_f (fel_cons (fe_t rfl) fel_nil) (fun w' hS => clone_any A n c za w' (Rd.below hr hS.below) hn (by omega)) (fun q hq => ?_))
          refine tl_step rfl (oj_val (y_fieldAddr (td := 31) Try.underlying33 rfl rfl Try.sizeOf31 (o' := 2) rfl (fe_t rfl)) ?_)
          refine tl_step rfl (oj_store1 3 Try.sizeOf31 (fe_t rfl) (fe_t rfl) rfl rfl rfl rfl (?_))
          refine tl_nil ?_
          refine tx_then ?_
          refine tr_seq ?_
          refine tr_seq ?_
          refine tr_region ?_
          refine tl_step rfl (oj_val (y_fieldAddr (td := 31) Try.underlying33 rfl rfl Try.sizeOf31 (o' := 2) rfl (fe_t rfl)) ?_)
          refine tl_step rfl (oj_val (y_ldb 2 Try.isAgg31 (fe_t rfl) rfl rfl) ?_)
          refine tl_step rfl (oj_val (y_len Try.underlying31 (fe_t rfl)) ?_)
          refine tl_step rfl (oj_val (y_move fe_c) ?_)
          refine tl_nil ?_
          refine tx_then ?_
          refine tr_block ?_
          refine tr_loop2 [5, 6, 7, 38, 39, 40, 41, 42, 43, 44, 45, 46, 47, 48, 49, 50, 51, 52, 53, 54, 55, 56, 57, 58] (fun (k : Nat) (vx : List Value) => [(38, .int .i64 (k : Int))]) 0 (fun (k : Nat) (vx : List Value) => [(0, vec 3 1 (.slice q.1 za.length q.2) za.length vx)]) (fun (k : Nat) (vx : List Value) => k ≤ n ∧ vx = cI (mix za zb k) ∧ ∀ j, j < k → ∀ (h1 : j < za.length) (h2 : j < zb.length), za[j] + zb[j] ≤ 1099511627776) (fun (k : Nat) (vx : List Value) => n - k) (0) (_) (cov_cons (by first | rfl | exact v_int (by omega) | exact v_bool (by simp [*])) (cov_nil)) (fun w h => h) ?_ ?_
          · try dsimp only
            exact ⟨by omega, by simp [mix, sums], fun j h => by omega⟩
          intro k vx hp
          obtain ⟨hk, hvx, hall⟩ := hp
          refine tr_seq ?_
          refine tr_region ?_
          refine tl_step rfl (oj_val (y_lss (fe_t rfl) (fe_t rfl)) ?_)
          refine tl_nil ?_
          refine tx_then ?_
          refine tr_seq ?_
          refine tr_condp (fe_t rfl) (fun hq5 => ?_) (fun hq6 => ?_)
          · try (exfalso; omega)
            all_goals
              refine tr_skip ?_
              refine tx_then ?_
              refine tr_seq ?_
              refine tr_block ?_
              refine tr_seq ?_
              refine tr_region ?_
              refine tl_step rfl (oj_val (y_move (fe_t rfl)) ?_)
              refine tl_step rfl (oj_val (y_index Try.underlying31 Try.sizeOf3 (fe_t rfl) (fe_t rfl) (rdl_out hr') (by first | (simp; done) | (simp; omega)) (by decide) (by omega) (Nat.mul_one _)) ?_)
              refine tl_step rfl (oj_val (y_ld Try.isAgg3 (fe_t rfl) (rdl_out hr') (getI (by omega))) ?_)
              refine tl_step rfl (oj_val (y_assign (fe_t rfl)) ?_)
              refine tl_step rfl (oj_val (y_assign (fe_t rfl)) ?_)
              refine tl_nil ?_
              refine tx_then ?_
              refine tr_seq ?_
              have hza := good_cells va k (by omega)
              have hzb := good_cells vb k (by omega)
              refine tr_region ?_
              refine tl_step rfl (oj_val (y_fieldAddr (td := 31) Try.underlying33 rfl rfl Try.sizeOf31 (o' := 2) rfl (fe_t rfl)) ?_)
              refine tl_step rfl (oj_val (y_ldb 3 Try.isAgg31 (fe_t rfl) rfl rfl) ?_)
              refine tl_step rfl (oj_val (y_move (fe_t rfl)) ?_)
              refine tl_step rfl (oj_val (y_index Try.underlying31 Try.sizeOf3 (fe_t rfl) (fe_t rfl) (rdl_vec 0 rfl) (by first | (rw [hvx, cI_len, mix_len (by omega) (by omega)]; omega) | (rw [hvx, List.length_set, cI_len, mix_len (by omega) (by omega)]; omega)) (by decide) (by omega) (Nat.mul_one _)) ?_)
              refine tl_step rfl (oj_val (y_ld (v := .int .i64 (za[k]'(by omega))) Try.isAgg3 (fe_t rfl) (rdl_vec 0 rfl) (by rw [hvx]; exact cI_mix (by omega) (by omega))) ?_)
              refine tl_step rfl (oj_val (y_move (fe_t rfl)) ?_)
              refine tl_step rfl (oj_val (y_add (fe_t rfl) (fe_t rfl) (by omega)) ?_)
              refine tl_step rfl (oj_val (y_index Try.underlying31 Try.sizeOf3 (fe_t rfl) (fe_t rfl) (rdl_vec 0 rfl) (by first | (rw [hvx, cI_len, mix_len (by omega) (by omega)]; omega) | (rw [hvx, List.length_set, cI_len, mix_len (by omega) (by omega)]; omega)) (by decide) (by omega) (Nat.mul_one _)) ?_)
              refine tl_step rfl (oj_storeE1 (i := 0) Try.sizeOf3 (fe_t rfl) (fe_t rfl) rfl rfl rfl (by omega) (?_))
              refine tl_nil ?_
              refine tx_then ?_
              refine tr_seq ?_
              refine tr_region ?_
              refine tl_step rfl (oj_val (y_fieldAddr (td := 31) Try.underlying33 rfl rfl Try.sizeOf31 (o' := 2) rfl (fe_t rfl)) ?_)
              refine tl_step rfl (oj_val (y_ldb 3 Try.isAgg31 (fe_t rfl) rfl rfl) ?_)
              refine tl_step rfl (oj_val (y_move (fe_t rfl)) ?_)
              refine tl_step rfl (oj_val (y_index Try.underlying31 Try.sizeOf3 (fe_t rfl) (fe_t rfl) (rdl_vec 0 rfl) (by first | (rw [hvx, cI_len, mix_len (by omega) (by omega)]; omega) | (rw [hvx, List.length_set, cI_len, mix_len (by omega) (by omega)]; omega)) (by decide) (by omega) (Nat.mul_one _)) ?_)
              refine tl_step rfl (oj_val (y_ld (v := .int .i64 (za[k]'(by omega) + zb[k]'(by omega))) Try.isAgg3 (fe_t rfl) (rdl_vec 0 rfl) (by rw [hvx]; exact set_get (by rw [cI_len, mix_len (by omega) (by omega)]; omega))) ?_)
              refine tl_step rfl (oj_val (y_gtr (fe_t rfl) fe_c) ?_)
              refine tl_nil ?_
              refine tx_then ?_
              refine tr_condp (fe_t rfl) (fun hq7 => ?_) (fun hq8 => ?_)
              · try (exfalso; omega)
                all_goals
                  refine tr_seq ?_
                  refine tr_region ?_
                  refine tl_step rfl (oj_val (y_build (is := []) (vs := []) (cs := [.int .i64 0, .int .i64 0, .slice none 0 0]) rfl fel_nil (by kernel_rfl)) ?_)
                  refine tl_step rfl (oj_storeW 1 Try.sizeOf33 (fe_t rfl) (fe_t rfl) rfl rfl rfl rfl rfl (?_))
                  refine tl_step rfl (oj_val (y_assign fe_c) ?_)
                  refine tl_nil ?_
                  refine tx_then ?_
                  refine tr_ret ?_
                  refine tx_in_ret ?_
                  refine tx_then_ret ?_
                  refine tx_then_ret ?_
                  refine tx_in_ret ?_
                  refine tx_then_ret ?_
                  refine tx_ret (res2 Try.results20 (rok_b 1 Try.isAgg33 Try.sizeOf33 rfl rfl rfl) (rok_t rfl)) (fun w' hS => ?_)
                  exact ⟨rfl, hS.pick [] _ rfl (by decide)⟩
              · try (exfalso; omega)
                all_goals
                  refine tr_skip ?_
                  refine tx_in ?_
                  refine tx_then ?_
                  refine tr_region ?_
                  refine tl_step rfl (oj_val (y_inc (fe_t rfl) fe_c (by omega)) ?_)
                  refine tl_step rfl (oj_val (y_move (fe_t rfl)) ?_)
                  refine tl_nil ?_
                  apply tx_back2 (k + 1) (_)
                  · exact (cov_cons (by first | rfl | exact v_int (by omega) | exact v_bool (by simp [*])) (cov_nil))
                  · repeat (first | exact over_nil | refine over_put rfl ?_ | refine over_drop rfl ?_)
                  · exact fun w h => h.pick [0, 1, 2, 3] _ rfl (by decide)
                  · refine ⟨⟨by omega, ?_, fun j h h1 h2 => ?_⟩, by omega⟩
                    · rw [hvx, cI, cI, ← mix_set (by omega) (by omega), List.map_set]
                    · by_cases h3 : j < k
                      · exact hall j h3 h1 h2
                      · obtain rfl : j = k := by omega
                        omega
          · try (exfalso; omega)
            all_goals
              refine tr_exit ?_
              refine tx_then_exit ?_
              refine tx_then_exit ?_
              refine tx_in_exit ?_
              refine tx_then ?_
              refine tr_seq ?_
              refine tr_region ?_
              refine tl_step rfl (oj_val (y_ldbA 3 Try.isAgg33 Try.sizeOf33 (fe_t rfl) rfl rfl rfl) ?_)
              refine tl_step rfl (oj_storeW 1 Try.sizeOf33 (fe_t rfl) (fe_t rfl) rfl rfl rfl rfl rfl (?_))
              refine tl_step rfl (oj_val (y_assign fe_c) ?_)
              refine tl_nil ?_
              refine tx_then ?_
              refine tr_ret ?_
              refine tx_ret (res2 Try.results20 (rok_b 1 Try.isAgg33 Try.sizeOf33 rfl rfl rfl) (rok_t rfl)) (fun w' hS => ?_)
              rw [full_not (by omega) (fun j h1 h2 => hall j (by omega) h1 h2)] at hf
              cases hf

end Go.Proofs.Ytdfjeoifeladfaa.Sketch
