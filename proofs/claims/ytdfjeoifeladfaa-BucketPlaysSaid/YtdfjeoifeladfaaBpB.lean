/- Walks: bucket.Play, case B. -/
import Derived.Test.YtdfjeoifeladfaaBpM
namespace Go.Proofs.Ytdfjeoifeladfaa.Bucket
open Go.RowKit Go.Proofs.Ytdfjeoifeladfaa.E

set_option maxRecDepth 100000 in
set_option maxHeartbeats 4000000 in
theorem play_B (num den burst : Int) (A : Option Addr) (n c : Nat) (l : List (Int × Int)) (w : World) (hr : Rd w A (l.flatMap c2)) (hn : l.length = n) (hm : n ≤ 140737488355328) (hg : rng num den burst = true) (hs : sorted l = false) :
    Calls Try.prog 23 #[(.int .i64 num), (.int .i64 den), (.int .i64 burst), .slice A n c] w fun e w' => e = .returned (.tuple #[.slice none 0 0, .agg #[(.int .i64 0), (.int .i64 0), (.int .i64 0), (.int .i64 0), (.int .i64 0)], (.int .i64 1)]) ∧ E.St w w' [] := by
  refine calls_tr Try.func23 Try.ntmps23 rfl rfl (St.refl _) ?_
  refine tr_seq ?_
  refine tr_region ?_
  refine tl_step rfl (oj_val (y_assign fe_c) ?_)
  refine tl_step rfl (oj_alloc Try.zeroValue43 (fun rb => ?_))
  refine tl_step rfl (oj_val (y_assign fe_c) ?_)
  refine tl_nil ?_
  refine tx_then ?_
  refine tr_seq ?_
  refine tr_region ?_
  refine tl_step rfl (oj_val (y_move (fe_t rfl)) ?_)
  refine tl_step rfl (oj_val (y_move (fe_t rfl)) ?_)
  refine tl_step rfl (oj_val (y_move (fe_t rfl)) ?_)
  refine tl_step rfl (oj_callv Try.call76 fe_f (fel_cons (fe_t rfl) (fel_cons (fe_t rfl) (fel_cons (fe_t rfl) fel_nil))) (fun w' hS => of_bel (full_ok num den burst w' hg)) ?_)
  refine tl_step rfl (oj_val (y_move (fe_t rfl)) ?_)
  refine tl_step rfl (oj_val (y_extract (fe_t rfl) rfl) ?_)
  refine tl_step rfl (oj_val (y_extract (fe_t rfl) rfl) ?_)
  refine tl_step rfl (oj_alloc Try.zeroValue43 (fun bb => ?_))
  refine tl_step rfl (oj_storeW 0 Try.sizeOf43 (fe_t rfl) (fe_t rfl) rfl rfl rfl rfl rfl (?_))
  refine tl_step rfl (oj_val (y_assign (fe_t rfl)) ?_)
  refine tl_nil ?_
  refine tx_then ?_
  refine tr_seq ?_
  refine tr_seq ?_
  refine tr_region ?_
  refine tl_step rfl (oj_val (y_move (fe_t rfl)) ?_)
  refine tl_step rfl (oj_val (y_neq (fe_t rfl) fe_c) ?_)
  refine tl_nil ?_
  refine tx_then ?_
  refine tr_condp (fe_t rfl) (fun hq1 => ?_) (fun hq2 => ?_)
  · exfalso; omega
  · refine tr_skip ?_
    refine tx_then ?_
    refine tr_seq ?_
    refine tr_seq ?_
    refine tr_region ?_
    refine tl_step rfl (oj_val (y_move (fe_t rfl)) ?_)
    refine tl_step rfl (oj_val (y_len Try.underlying40 (fe_t rfl)) ?_)
    refine tl_step rfl (oj_val (y_move fe_c) ?_)
    refine tl_nil ?_
    refine tx_then ?_
    refine tr_block ?_
    refine tr_loop1 [8, 10, 13, 14, 34, 35, 36, 37, 38, 39, 40, 41, 42, 43, 44, 45, 46, 47, 48, 49, 50, 51, 52, 53] (fun (k : Nat) => [(34, .int .i64 (k : Int))]) 0 (fun (k : Nat) => []) (fun (k : Nat) => k ≤ n ∧ ∀ j, 0 < j → j < k → (h : j < l.length) → (l[j - 1]'(by omega)).1 ≤ l[j].1) (fun (k : Nat) => n - k) (0) (cov_cons (by first | rfl | exact v_int (by omega) | exact v_bool (by simp [*])) (cov_nil)) (fun w h => h) ?_ ?_
    · try dsimp only
      exact ⟨by omega, fun j h0 h1 => by omega⟩
    intro k hp
    obtain ⟨hk, hall⟩ := hp
    refine tr_seq ?_
    refine tr_region ?_
    refine tl_step rfl (oj_val (y_lss (fe_t rfl) (fe_t rfl)) ?_)
    refine tl_nil ?_
    refine tx_then ?_
    refine tr_seq ?_
    refine tr_condp (fe_t rfl) (fun hq3 => ?_) (fun hq4 => ?_)
    · refine tr_skip ?_
      refine tx_then ?_
      refine tr_seq ?_
      refine tr_block ?_
      refine tr_seq ?_
      refine tr_region ?_
      refine tl_step rfl (oj_val (y_move (fe_t rfl)) ?_)
      refine tl_step rfl (oj_val (y_index Try.underlying40 Try.sizeOf25 (fe_t rfl) (fe_t rfl) (rdl_out hr) (lenF (fun _ => rfl) hn) (by decide) (by omega) rfl) ?_)
      refine tl_step rfl (oj_val (y_ldA Try.isAgg25 Try.sizeOf25 (fe_t rfl) (rdl_out hr) rfl (by decide) (getF (c := c2) (l := l) (fun _ => rfl) (by omega))) ?_)
      refine tl_step rfl (oj_alloc Try.zeroValue25 (fun b1 => ?_))
      refine tl_step rfl (oj_val (y_assign (fe_t rfl)) ?_)
      refine tl_step rfl (oj_storeW 0 Try.sizeOf25 (fe_t rfl) (fe_t rfl) rfl rfl rfl rfl rfl (?_))
      refine tl_nil ?_
      refine tx_then ?_
      refine tr_seq ?_
      refine tr_draw (sel _ [0, 1, 2]) (fun w h => h.sel _ rfl (by decide)) rfl ?_
      refine ta_float (i := 0) rfl (by kernel_rfl) (wants_none rfl) (yq_of (y_move (fe_t rfl))) ?_
      refine ta_float (i := 1) rfl (by kernel_rfl) (wants_none rfl) (yq_of (y_gtr (fe_t rfl) fe_c)) ?_
      refine ta_float (i := 2) rfl (by kernel_rfl) (wants_none rfl) (yq_of (y_move (fe_t rfl))) ?_
      refine ta_splitp (d := 41) rfl (fun hq5 => ?_) (fun hq6 => ?_)
      · refine ta_float (i := 3) rfl (by kernel_rfl) (wants_t rfl rfl rfl) (yq_of (y_fieldAddr (td := 3) Try.underlying25 rfl rfl Try.sizeOf3 (o' := 0) rfl (fe_t rfl))) ?_
        refine ta_float (i := 4) rfl (by kernel_rfl) (wants_t rfl rfl rfl) (yq_of (y_ldb 0 Try.isAgg3 (fe_t rfl) rfl rfl)) ?_
        refine ta_float (i := 5) rfl (by kernel_rfl) (wants_t rfl rfl rfl) (yq_of (y_move (fe_t rfl))) ?_
        refine ta_float (i := 6) rfl (by kernel_rfl) (wants_t rfl rfl rfl) (yq_of (y_move (fe_t rfl))) ?_
        refine ta_float (i := 7) rfl (by kernel_rfl) (wants_t rfl rfl rfl) (yq_of (y_dec (fe_t rfl) fe_c (by omega))) ?_
        refine ta_float (i := 8) rfl (by kernel_rfl) (wants_t rfl rfl rfl) (yq_of (y_index Try.underlying40 Try.sizeOf25 (fe_t rfl) (fe_t rfl) (rdl_out hr) (lenF (fun _ => rfl) hn) (by decide) (by omega) rfl)) ?_
        refine ta_float (i := 9) rfl (by kernel_rfl) (wants_t rfl rfl rfl) (yq_of (y_fieldAddrE (td := 3) Try.underlying25 rfl rfl Try.sizeOf3 rfl (fe_t rfl) (rdl_out hr) (by rw [lenF (s := 2) (fun _ => rfl) hn]; omega))) ?_
        refine ta_float (i := 10) rfl (by kernel_rfl) (wants_t rfl rfl rfl) (yq_of (y_ld Try.isAgg3 (fe_t rfl) (rdl_out hr) (getF (c := c2) (l := l) (fun _ => rfl) (by omega) 0 _ rfl))) ?_
        refine ta_float (i := 11) rfl (by kernel_rfl) (wants_t rfl rfl rfl) (yq_of (y_lss (fe_t rfl) (fe_t rfl))) ?_
        refine ta_float (i := 12) rfl (by kernel_rfl) (wants_none rfl) (yq_of (y_pickt (fe_t rfl) (fe_t rfl))) ?_
        refine ta_done (by kernel_rfl) ?_
        refine tx_then ?_
        refine tr_condp (fe_t rfl) (fun hq7 => ?_) (fun hq8 => ?_)
        · refine tr_seq ?_
          refine tr_region ?_
          refine tl_step rfl (oj_val (y_build (is := []) (vs := []) (cs := [.int .i64 0, .int .i64 0, .int .i64 0, .int .i64 0, .int .i64 0]) rfl fel_nil (by kernel_rfl)) ?_)
          refine tl_step rfl (oj_val (y_assign fe_c) ?_)
          refine tl_step rfl (oj_storeW 2 Try.sizeOf43 (fe_t rfl) (fe_t rfl) rfl rfl rfl rfl rfl (?_))
          refine tl_step rfl (oj_val (y_assign fe_c) ?_)
          refine tl_nil ?_
          refine tx_then ?_
          refine tr_ret ?_
          refine tx_in_ret ?_
          refine tx_then_ret ?_
          refine tx_then_ret ?_
          refine tx_in_ret ?_
          refine tx_then_ret ?_
          refine tx_ret (res3 Try.results23 (rok_t rfl) (rok_b 2 Try.isAgg43 Try.sizeOf43 rfl rfl rfl) (rok_t rfl)) (fun w' hS => ?_)
          exact ⟨rfl, hS.pick [] _ rfl (by decide)⟩
        · refine tr_skip ?_
          refine tx_in ?_
          refine tx_then ?_
          refine tr_region ?_
          refine tl_step rfl (oj_val (y_inc (fe_t rfl) fe_c (by omega)) ?_)
          refine tl_step rfl (oj_val (y_move (fe_t rfl)) ?_)
          refine tl_nil ?_
          apply tx_back1 (k + 1)
          · exact (cov_cons (by first | rfl | exact v_int (by omega) | exact v_bool (by simp [*])) (cov_nil))
          · repeat (first | exact over_nil | refine over_put rfl ?_ | refine over_drop rfl ?_)
          · exact fun w h => h.pick [1, 2] _ rfl (by decide)
          · refine ⟨⟨by omega, fun j h0 h1 h2 => ?_⟩, by omega⟩
            by_cases h3 : j < k
            · exact hall j h0 h3 h2
            · obtain rfl : j = k := by omega
              omega
      · refine ta_skip (i := 3) rfl (by kernel_rfl) (wants_f rfl rfl rfl rfl) ?_
        refine ta_skip (i := 4) rfl (by kernel_rfl) (wants_f rfl rfl rfl rfl) ?_
        refine ta_skip (i := 5) rfl (by kernel_rfl) (wants_f rfl rfl rfl rfl) ?_
        refine ta_skip (i := 6) rfl (by kernel_rfl) (wants_f rfl rfl rfl rfl) ?_
        refine ta_skip (i := 7) rfl (by kernel_rfl) (wants_f rfl rfl rfl rfl) ?_
        refine ta_skip (i := 8) rfl (by kernel_rfl) (wants_f rfl rfl rfl rfl) ?_
        refine ta_skip (i := 9) rfl (by kernel_rfl) (wants_f rfl rfl rfl rfl) ?_
        refine ta_skip (i := 10) rfl (by kernel_rfl) (wants_f rfl rfl rfl rfl) ?_
        refine ta_skip (i := 11) rfl (by kernel_rfl) (wants_f rfl rfl rfl rfl) ?_
        refine ta_float (i := 12) rfl (by kernel_rfl) (wants_none rfl) (yq_of (y_pickf (fe_t rfl) fe_c)) ?_
        refine ta_done (by kernel_rfl) ?_
        refine tx_then ?_
        refine tr_condf (fe_t rfl) ?_
        refine tr_skip ?_
        refine tx_in ?_
        refine tx_then ?_
        refine tr_region ?_
        refine tl_step rfl (oj_val (y_inc (fe_t rfl) fe_c (by omega)) ?_)
        refine tl_step rfl (oj_val (y_move (fe_t rfl)) ?_)
        refine tl_nil ?_
        apply tx_back1 (k + 1)
        · exact (cov_cons (by first | rfl | exact v_int (by omega) | exact v_bool (by simp [*])) (cov_nil))
        · repeat (first | exact over_nil | refine over_put rfl ?_ | refine over_drop rfl ?_)
        · exact fun w h => h.pick [1, 2] _ rfl (by decide)
        · refine ⟨⟨by omega, fun j h0 h1 h2 => ?_⟩, by omega⟩
          by_cases h3 : j < k
          · exact hall j h0 h3 h2
          · obtain rfl : j = k := by omega
            omega
    · exfalso; have hs2 := sorted_of (l := l) (fun j h0 h1 => hall j h0 (by omega) h1); rw [hs] at hs2; cases hs2

end Go.Proofs.Ytdfjeoifeladfaa.Bucket
