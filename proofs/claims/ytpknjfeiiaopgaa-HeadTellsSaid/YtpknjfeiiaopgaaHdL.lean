/- The law HeadTells. -/
import Derived.Test.YtpknjfeiiaopgaaHdP
import Derived.Test.YtpknjfeiiaopgaaHdE
import Derived.Test.YtpknjfeiiaopgaaHdY
import Derived.Test.YtpknjfeiiaopgaaHdZ
namespace Go.Proofs.Ytpknjfeiiaopgaa.Head
open Go.RowKit Go.Proofs.Ytpknjfeiiaopgaa.E

set_option maxRecDepth 100000 in
set_option maxHeartbeats 4000000 in
theorem law_ok (h : Hd) (ho : h.ok) (A : Option Addr) (n c : Nat) (l : List Int) (w : World) (hr : Rd w A (cB l)) (hn : l.length = n) (hz : ∀ z ∈ l, 0 ≤ z ∧ z ≤ 255) (hm : n ≤ 140737488355328) (hc : n ≤ c) (hw0 : wr h = 0) :
    Calls Try.prog 4 #[.agg #[.int .u8 h.s0, .int .u8 h.s1, .int .u8 h.s2, .int .u8 h.s3, .int .u8 h.d0, .int .u8 h.d1, .int .u8 h.d2, .int .u8 h.d3, (.int .i64 h.pr), (.int .i64 h.sp), (.int .i64 h.dp), (.int .i64 h.ln), (.int .i64 h.mr)], .slice A n c] w fun e w' => e = .returned (.bool true) ∧ E.St w w' [] := by
  refine calls_tr Try.func4 Try.ntmps4 rfl rfl (St.refl _) ?_
  refine tr_seq ?_
  refine tr_region ?_
  refine tl_step rfl (oj_box (fe_t rfl) (fun hb => ?_))
  refine tl_step rfl (oj_val (y_assign fe_c) ?_)
  refine tl_nil ?_
  refine tx_then ?_
  refine tr_seq ?_
  refine tr_region ?_
  refine tl_step rfl (oj_val (y_ldbA 0 Try.isAgg38 Try.sizeOf38 (fe_t rfl) rfl rfl rfl) ?_)
  refine tl_step rfl (oj_call Try.call16 fe_f (fel_cons (fe_t rfl) fel_nil) (fun w' hS => writeE h ho hw0 w') (fun x1 hx1 => ?_))
  refine tl_step rfl (oj_val (y_move (fe_t rfl)) ?_)
  refine tl_step rfl (oj_val (y_extract (fe_t rfl) rfl) ?_)
  refine tl_step rfl (oj_val (y_extract (fe_t rfl) rfl) ?_)
  refine tl_step rfl (oj_val (y_assign (fe_t rfl)) ?_)
  refine tl_step rfl (oj_val (y_assign (fe_t rfl)) ?_)
  refine tl_nil ?_
  refine tx_then ?_
  refine tr_seq ?_
  refine tr_region ?_
  refine tl_step rfl (oj_val (y_ldbA 1 Try.isAgg38 Try.sizeOf38 (fe_t rfl) rfl rfl rfl) ?_)
  refine tl_step rfl (oj_call Try.call17 fe_f (fel_cons (fe_t rfl) fel_nil) (fun w' hS => ewriteE h ho hw0 w') (fun y1 hy1 => ?_))
  refine tl_step rfl (oj_val (y_move (fe_t rfl)) ?_)
  refine tl_step rfl (oj_val (y_extract (fe_t rfl) rfl) ?_)
  refine tl_step rfl (oj_val (y_extract (fe_t rfl) rfl) ?_)
  refine tl_step rfl (oj_val (y_assign (fe_t rfl)) ?_)
  refine tl_step rfl (oj_val (y_assign (fe_t rfl)) ?_)
  refine tl_nil ?_
  refine tx_then ?_
  refine tr_seq ?_
  refine tr_region ?_
  refine tl_step rfl (oj_val (y_move (fe_t rfl)) ?_)
  refine tl_step rfl (oj_callv Try.call18 fe_f (fel_cons (fe_t rfl) fel_nil) (fun w' hS => readE A n c l w' (Rd.below hr hS.below) hn hz hm hc) ?_)
  refine tl_step rfl (oj_val (y_move (fe_t rfl)) ?_)
  refine tl_step rfl (oj_val (y_extract (fe_t rfl) rfl) ?_)
  refine tl_step rfl (oj_val (y_extract (fe_t rfl) rfl) ?_)
  refine tl_step rfl (oj_alloc Try.zeroValue38 (fun ub => ?_))
  refine tl_step rfl (oj_storeW 0 Try.sizeOf38 (fe_t rfl) (fe_t rfl) rfl rfl rfl rfl rfl (?_))
  refine tl_step rfl (oj_val (y_assign (fe_t rfl)) ?_)
  refine tl_nil ?_
  refine tx_then ?_
  refine tr_seq ?_
  refine tr_region ?_
  refine tl_step rfl (oj_val (y_move (fe_t rfl)) ?_)
  refine tl_step rfl (oj_callv Try.call19 fe_f (fel_cons (fe_t rfl) fel_nil) (fun w' hS => ereadE A n c l w' (Rd.below hr hS.below) hn hz hm hc) ?_)
  refine tl_step rfl (oj_val (y_move (fe_t rfl)) ?_)
  refine tl_step rfl (oj_val (y_extract (fe_t rfl) rfl) ?_)
  refine tl_step rfl (oj_val (y_extract (fe_t rfl) rfl) ?_)
  refine tl_step rfl (oj_alloc Try.zeroValue38 (fun vb => ?_))
  refine tl_step rfl (oj_storeW 0 Try.sizeOf38 (fe_t rfl) (fe_t rfl) rfl rfl rfl rfl rfl (?_))
  refine tl_step rfl (oj_val (y_assign (fe_t rfl)) ?_)
  refine tl_nil ?_
  refine tx_then ?_
  refine tr_seq ?_
  refine tr_draw (sel _ [0, 1, 2, 3, 4]) (fun w h => h.sel _ rfl (by decide)) rfl ?_
  refine ta_float (i := 0) rfl (by kernel_rfl) (wants_none rfl) (yq_of (y_ldbA 4 Try.isAgg38 Try.sizeOf38 (fe_t rfl) rfl rfl rfl)) ?_
  refine ta_float (i := 1) rfl (by kernel_rfl) (wants_none rfl) (yq_call Try.call20 fe_f (fel_cons (fe_t rfl) fel_nil) (fun w' hS => wrongE h w')) ?_
  refine ta_float (i := 2) rfl (by kernel_rfl) (wants_none rfl) (yq_of (y_ldbA 4 Try.isAgg38 Try.sizeOf38 (fe_t rfl) rfl rfl rfl)) ?_
  refine ta_float (i := 3) rfl (by kernel_rfl) (wants_none rfl) (yq_call Try.call21 fe_f (fel_cons (fe_t rfl) fel_nil) (fun w' hS => ewrongE h w')) ?_
  refine ta_float (i := 4) rfl (by kernel_rfl) (wants_none rfl) (yq_of (y_eq (fe_t rfl) (fe_t rfl))) ?_
  refine ta_float (i := 5) rfl (by kernel_rfl) (wants_none rfl) (yq_of (y_move (fe_t rfl))) ?_
  refine ta_splitp (d := 38) rfl (fun hq1 => ?_) (fun hq2 => ?_)
  · try (exfalso; omega)
    all_goals
      refine ta_float (i := 6) rfl (by kernel_rfl) (wants_t rfl rfl rfl) (yq_of (y_move (fe_t rfl))) ?_
      refine ta_float (i := 7) rfl (by kernel_rfl) (wants_t rfl rfl rfl) (yq_of (y_move (fe_t rfl))) ?_
      refine ta_float (i := 8) rfl (by kernel_rfl) (wants_t rfl rfl rfl) (yq_of (y_eq (fe_t rfl) (fe_t rfl))) ?_
      refine ta_float (i := 9) rfl (by kernel_rfl) (wants_none rfl) (yq_of (y_pickt (fe_t rfl) (fe_t rfl))) ?_
      refine ta_float (i := 10) rfl (by kernel_rfl) (wants_none rfl) (yq_of (y_move (fe_t rfl))) ?_
      refine ta_splitp (d := 43) rfl (fun hq3 => ?_) (fun hq4 => ?_)
      · try (exfalso; omega)
        all_goals
          refine ta_float (i := 11) rfl (by kernel_rfl) (wants_t rfl rfl rfl) (yq_of (y_move (fe_t rfl))) ?_
          refine ta_float (i := 12) rfl (by kernel_rfl) (wants_t rfl rfl rfl) (yq_of (y_bstr (zs := wb h) Try.underlying39 Try.underlying5 Try.underlying9 (fe_t rfl) (rdl_vec 3 rfl) hx1.2 hx1.1)) ?_
          refine ta_float (i := 13) rfl (by kernel_rfl) (wants_t rfl rfl rfl) (yq_of (y_move (fe_t rfl))) ?_
          refine ta_float (i := 14) rfl (by kernel_rfl) (wants_t rfl rfl rfl) (yq_of (y_bstr (zs := wb h) Try.underlying39 Try.underlying5 Try.underlying9 (fe_t rfl) (rdl_vec 2 rfl) hy1.2 hy1.1)) ?_
          refine ta_float (i := 15) rfl (by kernel_rfl) (wants_t rfl rfl rfl) (yq_of (y_eqstr Try.underlying9 (fe_t rfl) (fe_t rfl))) ?_
          refine ta_float (i := 16) rfl (by kernel_rfl) (wants_none rfl) (yq_of (y_pickt (fe_t rfl) (fe_t rfl))) ?_
          refine ta_float (i := 17) rfl (by kernel_rfl) (wants_none rfl) (yq_of (y_move (fe_t rfl))) ?_
          refine ta_float (i := 18) rfl (by kernel_rfl) (wants_t rfl rfl rfl) (yq_of (y_move (fe_t rfl))) ?_
          refine ta_float (i := 19) rfl (by kernel_rfl) (wants_t rfl rfl rfl) (yq_of (y_move (fe_t rfl))) ?_
          refine ta_float (i := 20) rfl (by kernel_rfl) (wants_t rfl rfl rfl) (yq_of (y_eq (fe_t rfl) (fe_t rfl))) ?_
          refine ta_float (i := 21) rfl (by kernel_rfl) (wants_none rfl) (yq_of (y_pickt (fe_t rfl) (fe_t rfl))) ?_
          refine ta_float (i := 22) rfl (by kernel_rfl) (wants_none rfl) (yq_of (y_move (fe_t rfl))) ?_
          refine ta_splitp (d := 55) rfl (fun hq5 => ?_) (fun hq6 => ?_)
          · try (exfalso; omega)
            all_goals
              refine ta_float (i := 23) rfl (by kernel_rfl) (wants_t rfl rfl rfl) (yq_of (y_ldbA 1 Try.isAgg38 Try.sizeOf38 (fe_t rfl) rfl rfl rfl)) ?_
              refine ta_float (i := 24) rfl (by kernel_rfl) (wants_t rfl rfl rfl) (yq_of (y_ldbA 0 Try.isAgg38 Try.sizeOf38 (fe_t rfl) rfl rfl rfl)) ?_
              refine ta_float (i := 25) rfl (by kernel_rfl) (wants_t rfl rfl rfl) (yq_of (y_binop (fe_t rfl) (fe_t rfl) (fun w => eq_head (rd l).1 w))) ?_
              refine ta_float (i := 26) rfl (by kernel_rfl) (wants_none rfl) (yq_of (y_pickt (fe_t rfl) (fe_t rfl))) ?_
              refine ta_float (i := 27) rfl (by kernel_rfl) (wants_none rfl) (yq_of (y_assign (fe_t rfl))) ?_
              refine ta_done (by kernel_rfl) ?_
              refine tx_then ?_
              refine tr_ret ?_
              refine tx_ret (res1 Try.results4 (rok_t rfl)) (fun w' hS => ?_)
              exact ⟨ret_bool (by first | rfl | (simp; done)), hS.pick [] _ rfl (by decide)⟩
          · try (exfalso; omega)
            all_goals
              refine ta_skip (i := 23) rfl (by kernel_rfl) (wants_f rfl rfl rfl rfl) ?_
              refine ta_skip (i := 24) rfl (by kernel_rfl) (wants_f rfl rfl rfl rfl) ?_
              refine ta_skip (i := 25) rfl (by kernel_rfl) (wants_f rfl rfl rfl rfl) ?_
              refine ta_float (i := 26) rfl (by kernel_rfl) (wants_none rfl) (yq_of (y_pickf (fe_t rfl) fe_c)) ?_
              refine ta_float (i := 27) rfl (by kernel_rfl) (wants_none rfl) (yq_of (y_assign (fe_t rfl))) ?_
              refine ta_done (by kernel_rfl) ?_
              refine tx_then ?_
              refine tr_ret ?_
              refine tx_ret (res1 Try.results4 (rok_t rfl)) (fun w' hS => ?_)
              exact ⟨ret_bool (by first | rfl | (simp; done)), hS.pick [] _ rfl (by decide)⟩
      · try (exfalso; omega)
        all_goals
          refine ta_skip (i := 11) rfl (by kernel_rfl) (wants_f rfl rfl rfl rfl) ?_
          refine ta_skip (i := 12) rfl (by kernel_rfl) (wants_f rfl rfl rfl rfl) ?_
          refine ta_skip (i := 13) rfl (by kernel_rfl) (wants_f rfl rfl rfl rfl) ?_
          refine ta_skip (i := 14) rfl (by kernel_rfl) (wants_f rfl rfl rfl rfl) ?_
          refine ta_skip (i := 15) rfl (by kernel_rfl) (wants_f rfl rfl rfl rfl) ?_
          refine ta_float (i := 16) rfl (by kernel_rfl) (wants_none rfl) (yq_of (y_pickf (fe_t rfl) fe_c)) ?_
          refine ta_float (i := 17) rfl (by kernel_rfl) (wants_none rfl) (yq_of (y_move (fe_t rfl))) ?_
          refine ta_skip (i := 18) rfl (by kernel_rfl) (wants_f rfl rfl rfl rfl) ?_
          refine ta_skip (i := 19) rfl (by kernel_rfl) (wants_f rfl rfl rfl rfl) ?_
          refine ta_skip (i := 20) rfl (by kernel_rfl) (wants_f rfl rfl rfl rfl) ?_
          refine ta_float (i := 21) rfl (by kernel_rfl) (wants_none rfl) (yq_of (y_pickf (fe_t rfl) fe_c)) ?_
          refine ta_float (i := 22) rfl (by kernel_rfl) (wants_none rfl) (yq_of (y_move (fe_t rfl))) ?_
          refine ta_skip (i := 23) rfl (by kernel_rfl) (wants_f rfl rfl rfl rfl) ?_
          refine ta_skip (i := 24) rfl (by kernel_rfl) (wants_f rfl rfl rfl rfl) ?_
          refine ta_skip (i := 25) rfl (by kernel_rfl) (wants_f rfl rfl rfl rfl) ?_
          refine ta_float (i := 26) rfl (by kernel_rfl) (wants_none rfl) (yq_of (y_pickf (fe_t rfl) fe_c)) ?_
          refine ta_float (i := 27) rfl (by kernel_rfl) (wants_none rfl) (yq_of (y_assign (fe_t rfl))) ?_
          refine ta_done (by kernel_rfl) ?_
          refine tx_then ?_
          refine tr_ret ?_
          refine tx_ret (res1 Try.results4 (rok_t rfl)) (fun w' hS => ?_)
          exact ⟨ret_bool (by first | rfl | (simp; done)), hS.pick [] _ rfl (by decide)⟩
  · try (exfalso; omega)
    all_goals
      refine ta_skip (i := 6) rfl (by kernel_rfl) (wants_f rfl rfl rfl rfl) ?_
      refine ta_skip (i := 7) rfl (by kernel_rfl) (wants_f rfl rfl rfl rfl) ?_
      refine ta_skip (i := 8) rfl (by kernel_rfl) (wants_f rfl rfl rfl rfl) ?_
      refine ta_float (i := 9) rfl (by kernel_rfl) (wants_none rfl) (yq_of (y_pickf (fe_t rfl) fe_c)) ?_
      refine ta_float (i := 10) rfl (by kernel_rfl) (wants_none rfl) (yq_of (y_move (fe_t rfl))) ?_
      refine ta_skip (i := 11) rfl (by kernel_rfl) (wants_f rfl rfl rfl rfl) ?_
      refine ta_skip (i := 12) rfl (by kernel_rfl) (wants_f rfl rfl rfl rfl) ?_
      refine ta_skip (i := 13) rfl (by kernel_rfl) (wants_f rfl rfl rfl rfl) ?_
      refine ta_skip (i := 14) rfl (by kernel_rfl) (wants_f rfl rfl rfl rfl) ?_
      refine ta_skip (i := 15) rfl (by kernel_rfl) (wants_f rfl rfl rfl rfl) ?_
      refine ta_float (i := 16) rfl (by kernel_rfl) (wants_none rfl) (yq_of (y_pickf (fe_t rfl) fe_c)) ?_
      refine ta_float (i := 17) rfl (by kernel_rfl) (wants_none rfl) (yq_of (y_move (fe_t rfl))) ?_
      refine ta_skip (i := 18) rfl (by kernel_rfl) (wants_f rfl rfl rfl rfl) ?_
      refine ta_skip (i := 19) rfl (by kernel_rfl) (wants_f rfl rfl rfl rfl) ?_
      refine ta_skip (i := 20) rfl (by kernel_rfl) (wants_f rfl rfl rfl rfl) ?_
      refine ta_float (i := 21) rfl (by kernel_rfl) (wants_none rfl) (yq_of (y_pickf (fe_t rfl) fe_c)) ?_
      refine ta_float (i := 22) rfl (by kernel_rfl) (wants_none rfl) (yq_of (y_move (fe_t rfl))) ?_
      refine ta_skip (i := 23) rfl (by kernel_rfl) (wants_f rfl rfl rfl rfl) ?_
      refine ta_skip (i := 24) rfl (by kernel_rfl) (wants_f rfl rfl rfl rfl) ?_
      refine ta_skip (i := 25) rfl (by kernel_rfl) (wants_f rfl rfl rfl rfl) ?_
      refine ta_float (i := 26) rfl (by kernel_rfl) (wants_none rfl) (yq_of (y_pickf (fe_t rfl) fe_c)) ?_
      refine ta_float (i := 27) rfl (by kernel_rfl) (wants_none rfl) (yq_of (y_assign (fe_t rfl))) ?_
      refine ta_done (by kernel_rfl) ?_
      refine tx_then ?_
      refine tr_ret ?_
      refine tx_ret (res1 Try.results4 (rok_t rfl)) (fun w' hS => ?_)
      exact ⟨ret_bool (by first | rfl | (simp; done)), hS.pick [] _ rfl (by decide)⟩

set_option maxRecDepth 100000 in
set_option maxHeartbeats 4000000 in
theorem law_bad (h : Hd) (ho : h.ok) (A : Option Addr) (n c : Nat) (l : List Int) (w : World) (hr : Rd w A (cB l)) (hn : l.length = n) (hz : ∀ z ∈ l, 0 ≤ z ∧ z ≤ 255) (hm : n ≤ 140737488355328) (hc : n ≤ c) (hw0 : wr h ≠ 0) :
    Calls Try.prog 4 #[.agg #[.int .u8 h.s0, .int .u8 h.s1, .int .u8 h.s2, .int .u8 h.s3, .int .u8 h.d0, .int .u8 h.d1, .int .u8 h.d2, .int .u8 h.d3, (.int .i64 h.pr), (.int .i64 h.sp), (.int .i64 h.dp), (.int .i64 h.ln), (.int .i64 h.mr)], .slice A n c] w fun e w' => e = .returned (.bool true) ∧ E.St w w' [] := by
  refine calls_tr Try.func4 Try.ntmps4 rfl rfl (St.refl _) ?_
  refine tr_seq ?_
  refine tr_region ?_
  refine tl_step rfl (oj_box (fe_t rfl) (fun hb => ?_))
  refine tl_step rfl (oj_val (y_assign fe_c) ?_)
  refine tl_nil ?_
  refine tx_then ?_
  refine tr_seq ?_
  refine tr_region ?_
  refine tl_step rfl (oj_val (y_ldbA 0 Try.isAgg38 Try.sizeOf38 (fe_t rfl) rfl rfl rfl) ?_)
  refine tl_step rfl (oj_callv Try.call16 fe_f (fel_cons (fe_t rfl) fel_nil) (fun w' hS => write_bad h hw0 w') ?_)
  refine tl_step rfl (oj_val (y_move (fe_t rfl)) ?_)
  refine tl_step rfl (oj_val (y_extract (fe_t rfl) rfl) ?_)
  refine tl_step rfl (oj_val (y_extract (fe_t rfl) rfl) ?_)
  refine tl_step rfl (oj_val (y_assign (fe_t rfl)) ?_)
  refine tl_step rfl (oj_val (y_assign (fe_t rfl)) ?_)
  refine tl_nil ?_
  refine tx_then ?_
  refine tr_seq ?_
  refine tr_region ?_
  refine tl_step rfl (oj_val (y_ldbA 0 Try.isAgg38 Try.sizeOf38 (fe_t rfl) rfl rfl rfl) ?_)
  refine tl_step rfl (oj_callv Try.call17 fe_f (fel_cons (fe_t rfl) fel_nil) (fun w' hS => ewrite_bad h hw0 w') ?_)
  refine tl_step rfl (oj_val (y_move (fe_t rfl)) ?_)
  refine tl_step rfl (oj_val (y_extract (fe_t rfl) rfl) ?_)
  refine tl_step rfl (oj_val (y_extract (fe_t rfl) rfl) ?_)
  refine tl_step rfl (oj_val (y_assign (fe_t rfl)) ?_)
  refine tl_step rfl (oj_val (y_assign (fe_t rfl)) ?_)
  refine tl_nil ?_
  refine tx_then ?_
  refine tr_seq ?_
  refine tr_region ?_
  refine tl_step rfl (oj_val (y_move (fe_t rfl)) ?_)
  refine tl_step rfl (oj_callv Try.call18 fe_f (fel_cons (fe_t rfl) fel_nil) (fun w' hS => readE A n c l w' (Rd.below hr hS.below) hn hz hm hc) ?_)
  refine tl_step rfl (oj_val (y_move (fe_t rfl)) ?_)
  refine tl_step rfl (oj_val (y_extract (fe_t rfl) rfl) ?_)
  refine tl_step rfl (oj_val (y_extract (fe_t rfl) rfl) ?_)
  refine tl_step rfl (oj_alloc Try.zeroValue38 (fun ub => ?_))
  refine tl_step rfl (oj_storeW 0 Try.sizeOf38 (fe_t rfl) (fe_t rfl) rfl rfl rfl rfl rfl (?_))
  refine tl_step rfl (oj_val (y_assign (fe_t rfl)) ?_)
  refine tl_nil ?_
  refine tx_then ?_
  refine tr_seq ?_
  refine tr_region ?_
  refine tl_step rfl (oj_val (y_move (fe_t rfl)) ?_)
  refine tl_step rfl (oj_callv Try.call19 fe_f (fel_cons (fe_t rfl) fel_nil) (fun w' hS => ereadE A n c l w' (Rd.below hr hS.below) hn hz hm hc) ?_)
  refine tl_step rfl (oj_val (y_move (fe_t rfl)) ?_)
  refine tl_step rfl (oj_val (y_extract (fe_t rfl) rfl) ?_)
  refine tl_step rfl (oj_val (y_extract (fe_t rfl) rfl) ?_)
  refine tl_step rfl (oj_alloc Try.zeroValue38 (fun vb => ?_))
  refine tl_step rfl (oj_storeW 0 Try.sizeOf38 (fe_t rfl) (fe_t rfl) rfl rfl rfl rfl rfl (?_))
  refine tl_step rfl (oj_val (y_assign (fe_t rfl)) ?_)
  refine tl_nil ?_
  refine tx_then ?_
  refine tr_seq ?_
  refine tr_draw (sel _ [0, 1, 2]) (fun w h => h.sel _ rfl (by decide)) rfl ?_
  refine ta_float (i := 0) rfl (by kernel_rfl) (wants_none rfl) (yq_of (y_ldbA 2 Try.isAgg38 Try.sizeOf38 (fe_t rfl) rfl rfl rfl)) ?_
  refine ta_float (i := 1) rfl (by kernel_rfl) (wants_none rfl) (yq_call Try.call20 fe_f (fel_cons (fe_t rfl) fel_nil) (fun w' hS => wrongE h w')) ?_
  refine ta_float (i := 2) rfl (by kernel_rfl) (wants_none rfl) (yq_of (y_ldbA 2 Try.isAgg38 Try.sizeOf38 (fe_t rfl) rfl rfl rfl)) ?_
  refine ta_float (i := 3) rfl (by kernel_rfl) (wants_none rfl) (yq_call Try.call21 fe_f (fel_cons (fe_t rfl) fel_nil) (fun w' hS => ewrongE h w')) ?_
  refine ta_float (i := 4) rfl (by kernel_rfl) (wants_none rfl) (yq_of (y_eq (fe_t rfl) (fe_t rfl))) ?_
  refine ta_float (i := 5) rfl (by kernel_rfl) (wants_none rfl) (yq_of (y_move (fe_t rfl))) ?_
  refine ta_splitp (d := 38) rfl (fun hq1 => ?_) (fun hq2 => ?_)
  · try (exfalso; omega)
    all_goals
      refine ta_float (i := 6) rfl (by kernel_rfl) (wants_t rfl rfl rfl) (yq_of (y_move (fe_t rfl))) ?_
      refine ta_float (i := 7) rfl (by kernel_rfl) (wants_t rfl rfl rfl) (yq_of (y_move (fe_t rfl))) ?_
      refine ta_float (i := 8) rfl (by kernel_rfl) (wants_t rfl rfl rfl) (yq_of (y_eq (fe_t rfl) (fe_t rfl))) ?_
      refine ta_float (i := 9) rfl (by kernel_rfl) (wants_none rfl) (yq_of (y_pickt (fe_t rfl) (fe_t rfl))) ?_
      refine ta_float (i := 10) rfl (by kernel_rfl) (wants_none rfl) (yq_of (y_move (fe_t rfl))) ?_
      refine ta_splitp (d := 43) rfl (fun hq3 => ?_) (fun hq4 => ?_)
      · try (exfalso; omega)
        all_goals
          refine ta_float (i := 11) rfl (by kernel_rfl) (wants_t rfl rfl rfl) (yq_of (y_move (fe_t rfl))) ?_
          refine ta_float (i := 12) rfl (by kernel_rfl) (wants_t rfl rfl rfl) (yq_of (y_bstr (zs := []) (xs := []) Try.underlying39 Try.underlying5 Try.underlying9 (fe_t rfl) (rdl_out Rd.nil) rfl rfl)) ?_
          refine ta_float (i := 13) rfl (by kernel_rfl) (wants_t rfl rfl rfl) (yq_of (y_move (fe_t rfl))) ?_
          refine ta_float (i := 14) rfl (by kernel_rfl) (wants_t rfl rfl rfl) (yq_of (y_bstr (zs := []) (xs := []) Try.underlying39 Try.underlying5 Try.underlying9 (fe_t rfl) (rdl_out Rd.nil) rfl rfl)) ?_
          refine ta_float (i := 15) rfl (by kernel_rfl) (wants_t rfl rfl rfl) (yq_of (y_eqstr Try.underlying9 (fe_t rfl) (fe_t rfl))) ?_
          refine ta_float (i := 16) rfl (by kernel_rfl) (wants_none rfl) (yq_of (y_pickt (fe_t rfl) (fe_t rfl))) ?_
          refine ta_float (i := 17) rfl (by kernel_rfl) (wants_none rfl) (yq_of (y_move (fe_t rfl))) ?_
          refine ta_float (i := 18) rfl (by kernel_rfl) (wants_t rfl rfl rfl) (yq_of (y_move (fe_t rfl))) ?_
          refine ta_float (i := 19) rfl (by kernel_rfl) (wants_t rfl rfl rfl) (yq_of (y_move (fe_t rfl))) ?_
          refine ta_float (i := 20) rfl (by kernel_rfl) (wants_t rfl rfl rfl) (yq_of (y_eq (fe_t rfl) (fe_t rfl))) ?_
          refine ta_float (i := 21) rfl (by kernel_rfl) (wants_none rfl) (yq_of (y_pickt (fe_t rfl) (fe_t rfl))) ?_
          refine ta_float (i := 22) rfl (by kernel_rfl) (wants_none rfl) (yq_of (y_move (fe_t rfl))) ?_
          refine ta_splitp (d := 55) rfl (fun hq5 => ?_) (fun hq6 => ?_)
          · try (exfalso; omega)
            all_goals
              refine ta_float (i := 23) rfl (by kernel_rfl) (wants_t rfl rfl rfl) (yq_of (y_ldbA 1 Try.isAgg38 Try.sizeOf38 (fe_t rfl) rfl rfl rfl)) ?_
              refine ta_float (i := 24) rfl (by kernel_rfl) (wants_t rfl rfl rfl) (yq_of (y_ldbA 0 Try.isAgg38 Try.sizeOf38 (fe_t rfl) rfl rfl rfl)) ?_
              refine ta_float (i := 25) rfl (by kernel_rfl) (wants_t rfl rfl rfl) (yq_of (y_binop (fe_t rfl) (fe_t rfl) (fun w => eq_head (rd l).1 w))) ?_
              refine ta_float (i := 26) rfl (by kernel_rfl) (wants_none rfl) (yq_of (y_pickt (fe_t rfl) (fe_t rfl))) ?_
              refine ta_float (i := 27) rfl (by kernel_rfl) (wants_none rfl) (yq_of (y_assign (fe_t rfl))) ?_
              refine ta_done (by kernel_rfl) ?_
              refine tx_then ?_
              refine tr_ret ?_
              refine tx_ret (res1 Try.results4 (rok_t rfl)) (fun w' hS => ?_)
              exact ⟨ret_bool (by first | rfl | (simp; done)), hS.pick [] _ rfl (by decide)⟩
          · try (exfalso; omega)
            all_goals
              refine ta_skip (i := 23) rfl (by kernel_rfl) (wants_f rfl rfl rfl rfl) ?_
              refine ta_skip (i := 24) rfl (by kernel_rfl) (wants_f rfl rfl rfl rfl) ?_
              refine ta_skip (i := 25) rfl (by kernel_rfl) (wants_f rfl rfl rfl rfl) ?_
              refine ta_float (i := 26) rfl (by kernel_rfl) (wants_none rfl) (yq_of (y_pickf (fe_t rfl) fe_c)) ?_
              refine ta_float (i := 27) rfl (by kernel_rfl) (wants_none rfl) (yq_of (y_assign (fe_t rfl))) ?_
              refine ta_done (by kernel_rfl) ?_
              refine tx_then ?_
              refine tr_ret ?_
              refine tx_ret (res1 Try.results4 (rok_t rfl)) (fun w' hS => ?_)
              exact ⟨ret_bool (by first | rfl | (simp; done)), hS.pick [] _ rfl (by decide)⟩
      · try (exfalso; omega)
        all_goals
          refine ta_skip (i := 11) rfl (by kernel_rfl) (wants_f rfl rfl rfl rfl) ?_
          refine ta_skip (i := 12) rfl (by kernel_rfl) (wants_f rfl rfl rfl rfl) ?_
          refine ta_skip (i := 13) rfl (by kernel_rfl) (wants_f rfl rfl rfl rfl) ?_
          refine ta_skip (i := 14) rfl (by kernel_rfl) (wants_f rfl rfl rfl rfl) ?_
          refine ta_skip (i := 15) rfl (by kernel_rfl) (wants_f rfl rfl rfl rfl) ?_
          refine ta_float (i := 16) rfl (by kernel_rfl) (wants_none rfl) (yq_of (y_pickf (fe_t rfl) fe_c)) ?_
          refine ta_float (i := 17) rfl (by kernel_rfl) (wants_none rfl) (yq_of (y_move (fe_t rfl))) ?_
          refine ta_skip (i := 18) rfl (by kernel_rfl) (wants_f rfl rfl rfl rfl) ?_
          refine ta_skip (i := 19) rfl (by kernel_rfl) (wants_f rfl rfl rfl rfl) ?_
          refine ta_skip (i := 20) rfl (by kernel_rfl) (wants_f rfl rfl rfl rfl) ?_
          refine ta_float (i := 21) rfl (by kernel_rfl) (wants_none rfl) (yq_of (y_pickf (fe_t rfl) fe_c)) ?_
          refine ta_float (i := 22) rfl (by kernel_rfl) (wants_none rfl) (yq_of (y_move (fe_t rfl))) ?_
          refine ta_skip (i := 23) rfl (by kernel_rfl) (wants_f rfl rfl rfl rfl) ?_
          refine ta_skip (i := 24) rfl (by kernel_rfl) (wants_f rfl rfl rfl rfl) ?_
          refine ta_skip (i := 25) rfl (by kernel_rfl) (wants_f rfl rfl rfl rfl) ?_
          refine ta_float (i := 26) rfl (by kernel_rfl) (wants_none rfl) (yq_of (y_pickf (fe_t rfl) fe_c)) ?_
          refine ta_float (i := 27) rfl (by kernel_rfl) (wants_none rfl) (yq_of (y_assign (fe_t rfl))) ?_
          refine ta_done (by kernel_rfl) ?_
          refine tx_then ?_
          refine tr_ret ?_
          refine tx_ret (res1 Try.results4 (rok_t rfl)) (fun w' hS => ?_)
          exact ⟨ret_bool (by first | rfl | (simp; done)), hS.pick [] _ rfl (by decide)⟩
  · try (exfalso; omega)
    all_goals
      refine ta_skip (i := 6) rfl (by kernel_rfl) (wants_f rfl rfl rfl rfl) ?_
      refine ta_skip (i := 7) rfl (by kernel_rfl) (wants_f rfl rfl rfl rfl) ?_
      refine ta_skip (i := 8) rfl (by kernel_rfl) (wants_f rfl rfl rfl rfl) ?_
      refine ta_float (i := 9) rfl (by kernel_rfl) (wants_none rfl) (yq_of (y_pickf (fe_t rfl) fe_c)) ?_
      refine ta_float (i := 10) rfl (by kernel_rfl) (wants_none rfl) (yq_of (y_move (fe_t rfl))) ?_
      refine ta_skip (i := 11) rfl (by kernel_rfl) (wants_f rfl rfl rfl rfl) ?_
      refine ta_skip (i := 12) rfl (by kernel_rfl) (wants_f rfl rfl rfl rfl) ?_
      refine ta_skip (i := 13) rfl (by kernel_rfl) (wants_f rfl rfl rfl rfl) ?_
      refine ta_skip (i := 14) rfl (by kernel_rfl) (wants_f rfl rfl rfl rfl) ?_
      refine ta_skip (i := 15) rfl (by kernel_rfl) (wants_f rfl rfl rfl rfl) ?_
      refine ta_float (i := 16) rfl (by kernel_rfl) (wants_none rfl) (yq_of (y_pickf (fe_t rfl) fe_c)) ?_
      refine ta_float (i := 17) rfl (by kernel_rfl) (wants_none rfl) (yq_of (y_move (fe_t rfl))) ?_
      refine ta_skip (i := 18) rfl (by kernel_rfl) (wants_f rfl rfl rfl rfl) ?_
      refine ta_skip (i := 19) rfl (by kernel_rfl) (wants_f rfl rfl rfl rfl) ?_
      refine ta_skip (i := 20) rfl (by kernel_rfl) (wants_f rfl rfl rfl rfl) ?_
      refine ta_float (i := 21) rfl (by kernel_rfl) (wants_none rfl) (yq_of (y_pickf (fe_t rfl) fe_c)) ?_
      refine ta_float (i := 22) rfl (by kernel_rfl) (wants_none rfl) (yq_of (y_move (fe_t rfl))) ?_
      refine ta_skip (i := 23) rfl (by kernel_rfl) (wants_f rfl rfl rfl rfl) ?_
      refine ta_skip (i := 24) rfl (by kernel_rfl) (wants_f rfl rfl rfl rfl) ?_
      refine ta_skip (i := 25) rfl (by kernel_rfl) (wants_f rfl rfl rfl rfl) ?_
      refine ta_float (i := 26) rfl (by kernel_rfl) (wants_none rfl) (yq_of (y_pickf (fe_t rfl) fe_c)) ?_
      refine ta_float (i := 27) rfl (by kernel_rfl) (wants_none rfl) (yq_of (y_assign (fe_t rfl))) ?_
      refine ta_done (by kernel_rfl) ?_
      refine tx_then ?_
      refine tr_ret ?_
      refine tx_ret (res1 Try.results4 (rok_t rfl)) (fun w' hS => ?_)
      exact ⟨ret_bool (by first | rfl | (simp; done)), hS.pick [] _ rfl (by decide)⟩

end Go.Proofs.Ytpknjfeiiaopgaa.Head
