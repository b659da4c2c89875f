/- Walks: head.Read. -/
import Derived.Test.YtpknjfeiiaopgaaHdX
namespace Go.Proofs.Ytpknjfeiiaopgaa.Head
open Go.RowKit Go.Proofs.Ytpknjfeiiaopgaa.E

set_option maxRecDepth 100000 in
theorem noE (x : Int) (w : World) :
    Calls Try.prog 58 #[(.int .i64 x)] w fun e w' => e = .returned (.tuple #[.agg #[.int .u8 zH.s0, .int .u8 zH.s1, .int .u8 zH.s2, .int .u8 zH.s3, .int .u8 zH.d0, .int .u8 zH.d1, .int .u8 zH.d2, .int .u8 zH.d3, (.int .i64 zH.pr), (.int .i64 zH.sp), (.int .i64 zH.dp), (.int .i64 zH.ln), (.int .i64 zH.mr)], (.int .i64 x)]) ∧ St w w' [] := by
  refine calls_tr Try.func58 Try.ntmps58 rfl rfl (St.refl _) ?_
  refine tr_seq ?_
  refine tr_region ?_
  refine tl_step rfl (oj_alloc Try.zeroValue38 (fun ra => ?_))
  refine tl_step rfl (oj_val (y_assign fe_c) ?_)
  refine tl_nil ?_
  refine tx_then ?_
  refine tr_seq ?_
  refine tr_region ?_
  refine tl_step rfl (oj_val (y_build (is := []) (vs := []) (cs := [.int .u8 0, .int .u8 0, .int .u8 0, .int .u8 0, .int .u8 0, .int .u8 0, .int .u8 0, .int .u8 0, .int .i64 0, .int .i64 0, .int .i64 0, .int .i64 0, .int .i64 0]) rfl fel_nil (by kernel_rfl)) ?_)
  refine tl_step rfl (oj_val (y_move (fe_t rfl)) ?_)
  refine tl_step rfl (oj_storeW 0 Try.sizeOf38 (fe_t rfl) (fe_t rfl) rfl rfl rfl rfl rfl (?_))
  refine tl_step rfl (oj_val (y_assign (fe_t rfl)) ?_)
  refine tl_nil ?_
  refine tx_then ?_
  refine tr_ret ?_
  refine tx_ret (res2 Try.results58 (rok_b 0 Try.isAgg38 Try.sizeOf38 rfl rfl rfl) (rok_t rfl)) (fun w' hS => ?_)
  exact ⟨rfl, hS.pick [] _ rfl (by decide)⟩

set_option maxRecDepth 100000 in
theorem twoR {w0 w : World} {T : List Res} {lb : Nat} {A : Option Addr} {n c : Nat} {l : List Int} (hr : Rd w0 A (cB l)) (hn : l.length = n) (hz : ∀ z ∈ l, 0 ≤ z ∧ z ≤ 255) (hm : n ≤ 140737488355328) (hS : St w0 w (blk lb [.slice A n c] :: T)) (k : Nat) (hk : k + 1 < n) :
    Calls Try.prog 59 #[(.int .i64 ((k : Int))), .pointer (some ⟨lb, 0, none⟩)] w fun e w' => ∃ _q : Unit, True ∧ e = .returned (.int .i64 (two l k)) ∧ St w0 w' (blk lb [.slice A n c] :: T) := by
  have hb0 := at_by hz k
  have hb1 := at_by hz (k + 1)
  refine calls_tr Try.func59 Try.ntmps59 rfl rfl hS ?_
  refine tr_seq ?_
  refine tr_region ?_
  refine tl_step rfl (oj_val (y_assign fe_c) ?_)
  refine tl_nil ?_
  refine tx_then ?_
  refine tr_seq ?_
  refine tr_draw (sel _ [0]) (fun w h => h.sel _ rfl (by decide)) rfl ?_
  refine ta_float (i := 0) rfl (by kernel_rfl) (wants_none rfl) (yq_of (y_ldb 0 Try.isAgg39 (fe_t rfl) rfl rfl)) ?_
  refine ta_float (i := 1) rfl (by kernel_rfl) (wants_none rfl) (yq_of (y_move (fe_t rfl))) ?_
  refine ta_float (i := 2) rfl (by kernel_rfl) (wants_none rfl) (yq_of (y_index Try.underlying39 Try.sizeOf5 (fe_t rfl) (fe_t rfl) (rdl_out hr) (by rw [cB_len]; omega) (by decide) (by omega) (Nat.mul_one _))) ?_
  refine ta_float (i := 3) rfl (by kernel_rfl) (wants_none rfl) (yq_of (y_ld (v := .int .u8 (at_ l (k))) Try.isAgg5 (fe_t rfl) (rdl_out hr) (by rw [show (k : Nat) = k by omega]; exact getB (by omega)))) ?_
  refine ta_float (i := 4) rfl (by kernel_rfl) (wants_none rfl) (yq_of (y_convi Try.underlying5 Try.underlying3 (fe_t rfl) (IntWalk.i64_in _ (by omega)))) ?_
  refine ta_float (i := 5) rfl (by kernel_rfl) (wants_none rfl) (yq_of (y_shlq (c := at_ l k * 256) (fe_t rfl) fe_c (by decide) (by show IntKind.i64.wrap (at_ l k * 256) = _; exact IntWalk.i64_in _ (by omega)))) ?_
  refine ta_float (i := 6) rfl (by kernel_rfl) (wants_none rfl) (yq_of (y_ldb 0 Try.isAgg39 (fe_t rfl) rfl rfl)) ?_
  refine ta_float (i := 7) rfl (by kernel_rfl) (wants_none rfl) (yq_of (y_move (fe_t rfl))) ?_
  refine ta_float (i := 8) rfl (by kernel_rfl) (wants_none rfl) (yq_of (y_inc (fe_t rfl) fe_c (by omega))) ?_
  refine ta_float (i := 9) rfl (by kernel_rfl) (wants_none rfl) (yq_of (y_index Try.underlying39 Try.sizeOf5 (fe_t rfl) (fe_t rfl) (rdl_out hr) (by rw [cB_len]; omega) (by decide) (by omega) (Nat.mul_one _))) ?_
  refine ta_float (i := 10) rfl (by kernel_rfl) (wants_none rfl) (yq_of (y_ld Try.isAgg5 (fe_t rfl) (rdl_out hr) (getB (by omega)))) ?_
  refine ta_float (i := 11) rfl (by kernel_rfl) (wants_none rfl) (yq_of (y_convi Try.underlying5 Try.underlying3 (fe_t rfl) (IntWalk.i64_in _ (by omega)))) ?_
  refine ta_float (i := 12) rfl (by kernel_rfl) (wants_none rfl) (yq_of (y_orq (c := two l k) (fe_t rfl) (fe_t rfl) (or8 hb0.1 hb0.2 hb1.1 hb1.2))) ?_
  refine ta_float (i := 13) rfl (by kernel_rfl) (wants_none rfl) (yq_of (y_assign (fe_t rfl))) ?_
  refine ta_done (by kernel_rfl) ?_
  refine tx_then ?_
  refine tr_ret ?_
  refine tx_ret (res1 Try.results59 (rok_t rfl)) (fun w' hS => ?_)
  have h1 := pickT (l := [_]) hS [0] rfl (by decide)
  exact ⟨(), trivial, rfl, h1⟩

set_option maxRecDepth 100000 in
set_option maxHeartbeats 8000000 in
theorem readE (A : Option Addr) (n c : Nat) (l : List Int) (w : World) (hr : Rd w A (cB l)) (hn : l.length = n) (hz : ∀ z ∈ l, 0 ≤ z ∧ z ≤ 255) (hm : n ≤ 140737488355328) (hc : n ≤ c) :
    Calls Try.prog 18 #[.slice A n c] w fun e w' => e = .returned (.tuple #[.agg #[.int .u8 (rd l).1.s0, .int .u8 (rd l).1.s1, .int .u8 (rd l).1.s2, .int .u8 (rd l).1.s3, .int .u8 (rd l).1.d0, .int .u8 (rd l).1.d1, .int .u8 (rd l).1.d2, .int .u8 (rd l).1.d3, (.int .i64 ((rd l).1.pr)), (.int .i64 ((rd l).1.sp)), (.int .i64 ((rd l).1.dp)), (.int .i64 ((rd l).1.ln)), (.int .i64 ((rd l).1.mr))], (.int .i64 ((rd l).2))]) ∧ St w w' [] := by
  have hb0 := at_by hz 0
  have hb1 := at_by hz 1
  have hb2 := at_by hz 2
  have hb3 := at_by hz 3
  have hb6 := at_by hz 6
  have hb7 := at_by hz 7
  have hb9 := at_by hz 9
  have hhl := hl_eq hb0
  have ht2 : two l 2 = at_ l 2 * 256 + at_ l 3 := rfl
  have ht6 : two l 6 = at_ l 6 * 256 + at_ l 7 := rfl
  have hpr0 : (h0 l).pr = at_ l 9 := rfl
  have hln0 : (h0 l).ln = two l 2 := rfl
  refine calls_tr Try.func18 Try.ntmps18 rfl rfl (St.refl _) ?_
  refine tr_seq ?_
  refine tr_region ?_
  refine tl_step rfl (oj_box (fe_t rfl) (fun lb => ?_))
  refine tl_step rfl (oj_alloc Try.zeroValue38 (fun ra => ?_))
  refine tl_step rfl (oj_val (y_assign fe_c) ?_)
  refine tl_nil ?_
  refine tx_then ?_
  refine tr_seq ?_
  refine tr_region ?_
  refine tl_step rfl (oj_val (y_assign fe_f) ?_)
  refine tl_nil ?_
  refine tx_then ?_
  refine tr_seq ?_
  refine tr_seq ?_
  refine tr_region ?_
  refine tl_step rfl (oj_val (y_ldb 1 Try.isAgg39 (fe_t rfl) rfl rfl) ?_)
  refine tl_step rfl (oj_val (y_len Try.underlying39 (fe_t rfl)) ?_)
  refine tl_step rfl (oj_val (y_lss (fe_t rfl) fe_c) ?_)
  refine tl_nil ?_
  refine tx_then ?_
  refine tr_condp (fe_t rfl) (fun hq1 => ?_) (fun hq2 => ?_)
  · try (exfalso; omega)
    all_goals
      refine tr_seq ?_
      refine tr_region ?_
      refine tl_step rfl (oj_val (y_move (fe_t rfl)) ?_)
      refine tl_step rfl (oj_callv Try.call58 (fe_t rfl) (fel_cons fe_c fel_nil) (fun w' hS => noE _ w') ?_)
      refine tl_step rfl (oj_val (y_extract (fe_t rfl) rfl) ?_)
      refine tl_step rfl (oj_val (y_extract (fe_t rfl) rfl) ?_)
      refine tl_step rfl (oj_storeW 0 Try.sizeOf38 (fe_t rfl) (fe_t rfl) rfl rfl rfl rfl rfl (?_))
      refine tl_step rfl (oj_val (y_assign (fe_t rfl)) ?_)
      refine tl_nil ?_
      refine tx_then ?_
      refine tr_ret ?_
      refine tx_then_ret ?_
      refine tx_ret (res2 Try.results18 (rok_b 0 Try.isAgg38 Try.sizeOf38 rfl rfl rfl) (rok_t rfl)) (fun w' hS => ?_)
      have hw : rd l = (zH, 8) := by
        first
        | exact rd_a (by omega)
        | (exfalso; simp_all; done)
      exact ⟨by rw [hw]; rfl, hS.pick [] _ rfl (by decide)⟩
  · try (exfalso; omega)
    all_goals
      refine tr_skip ?_
      refine tx_then ?_
      refine tr_seq ?_
      refine tr_seq ?_
      refine tr_region ?_
      refine tl_step rfl (oj_val (y_ldb 1 Try.isAgg39 (fe_t rfl) rfl rfl) ?_)
      refine tl_step rfl (oj_val (y_indexI (m := 0) Try.underlying39 Try.sizeOf5 (fe_t rfl) fe_c (rdl_out hr) (by rw [cB_len]; omega) (by decide) (by decide) (by omega) rfl) ?_)
      refine tl_step rfl (oj_val (y_ld Try.isAgg5 (fe_t rfl) (rdl_out hr) (getB (by omega))) ?_)
      refine tl_step rfl (oj_val (y_shrq (c := at_ l 0 / 16) (fe_t rfl) fe_c (by decide) (divq (by decide) (by decide))) ?_)
      refine tl_step rfl (oj_val (y_neq (fe_t rfl) fe_c) ?_)
      refine tl_step rfl (oj_val (y_move (fe_t rfl)) ?_)
      refine tl_splitp (d := 22) rfl (fun hq3 => ?_) (fun hq4 => ?_)
      · try (exfalso; omega)
        all_goals
          refine tl_skip rfl rfl rfl rfl ?_
          refine tl_skip rfl rfl rfl rfl ?_
          refine tl_skip rfl rfl rfl rfl ?_
          refine tl_skip rfl rfl rfl rfl ?_
          refine tl_skip rfl rfl rfl rfl ?_
          refine tl_step rfl (oj_val (y_pickt (fe_t rfl) fe_c) ?_)
          refine tl_nil ?_
          refine tx_then ?_
          refine tr_condt (fe_t rfl) ?_
          refine tr_seq ?_
          refine tr_region ?_
          refine tl_step rfl (oj_val (y_move (fe_t rfl)) ?_)
          refine tl_step rfl (oj_callv Try.call58 (fe_t rfl) (fel_cons fe_c fel_nil) (fun w' hS => noE _ w') ?_)
          refine tl_step rfl (oj_val (y_extract (fe_t rfl) rfl) ?_)
          refine tl_step rfl (oj_val (y_extract (fe_t rfl) rfl) ?_)
          refine tl_step rfl (oj_storeW 0 Try.sizeOf38 (fe_t rfl) (fe_t rfl) rfl rfl rfl rfl rfl (?_))
          refine tl_step rfl (oj_val (y_assign (fe_t rfl)) ?_)
          refine tl_nil ?_
          refine tx_then ?_
          refine tr_ret ?_
          refine tx_then_ret ?_
          refine tx_ret (res2 Try.results18 (rok_b 0 Try.isAgg38 Try.sizeOf38 rfl rfl rfl) (rok_t rfl)) (fun w' hS => ?_)
          have hw : rd l = (zH, 1) := by
            first
            | exact rd_b (by omega) (by omega)
            | (exfalso; simp_all; done)
          exact ⟨by rw [hw]; rfl, hS.pick [] _ rfl (by decide)⟩
      · try (exfalso; omega)
        all_goals
          refine tl_want rfl rfl rfl (oj_val (y_ldb 1 Try.isAgg39 (fe_t rfl) rfl rfl) ?_)
          refine tl_want rfl rfl rfl (oj_val (y_indexI (m := 0) Try.underlying39 Try.sizeOf5 (fe_t rfl) fe_c (rdl_out hr) (by rw [cB_len]; omega) (by decide) (by decide) (by omega) rfl) ?_)
          refine tl_want rfl rfl rfl (oj_val (y_ld Try.isAgg5 (fe_t rfl) (rdl_out hr) (getB (by omega))) ?_)
          refine tl_want rfl rfl rfl (oj_val (y_andq (c := at_ l 0 % 16) (fe_t rfl) fe_c (and15 hb0.1 hb0.2)) ?_)
          refine tl_want rfl rfl rfl (oj_val (y_lss (fe_t rfl) fe_c) ?_)
          refine tl_step rfl (oj_val (y_pickf (fe_t rfl) (fe_t rfl)) ?_)
          refine tl_nil ?_
          refine tx_then ?_
          refine tr_condp (fe_t rfl) (fun hq5 => ?_) (fun hq6 => ?_)
          · try (exfalso; omega)
            all_goals
              refine tr_seq ?_
              refine tr_region ?_
              refine tl_step rfl (oj_val (y_move (fe_t rfl)) ?_)
              refine tl_step rfl (oj_callv Try.call58 (fe_t rfl) (fel_cons fe_c fel_nil) (fun w' hS => noE _ w') ?_)
              refine tl_step rfl (oj_val (y_extract (fe_t rfl) rfl) ?_)
              refine tl_step rfl (oj_val (y_extract (fe_t rfl) rfl) ?_)
              refine tl_step rfl (oj_storeW 0 Try.sizeOf38 (fe_t rfl) (fe_t rfl) rfl rfl rfl rfl rfl (?_))
              refine tl_step rfl (oj_val (y_assign (fe_t rfl)) ?_)
              refine tl_nil ?_
              refine tx_then ?_
              refine tr_ret ?_
              refine tx_then_ret ?_
              refine tx_ret (res2 Try.results18 (rok_b 0 Try.isAgg38 Try.sizeOf38 rfl rfl rfl) (rok_t rfl)) (fun w' hS => ?_)
              have hw : rd l = (zH, 1) := by
                first
                | exact rd_b (by omega) (by omega)
                | (exfalso; simp_all; done)
              exact ⟨by rw [hw]; rfl, hS.pick [] _ rfl (by decide)⟩
          · try (exfalso; omega)
            all_goals
              refine tr_skip ?_
              refine tx_then ?_
              refine tr_seq ?_
              refine tr_region ?_
              refine tl_step rfl (oj_val (y_ldb 1 Try.isAgg39 (fe_t rfl) rfl rfl) ?_)
              refine tl_step rfl (oj_val (y_indexI (m := 0) Try.underlying39 Try.sizeOf5 (fe_t rfl) fe_c (rdl_out hr) (by rw [cB_len]; omega) (by decide) (by decide) (by omega) rfl) ?_)
              refine tl_step rfl (oj_val (y_ld Try.isAgg5 (fe_t rfl) (rdl_out hr) (getB (by omega))) ?_)
              refine tl_step rfl (oj_val (y_andq (c := at_ l 0 % 16) (fe_t rfl) fe_c (and15 hb0.1 hb0.2)) ?_)
              refine tl_step rfl (oj_val (y_convi Try.underlying5 Try.underlying3 (fe_t rfl) (IntWalk.i64_in _ (by omega))) ?_)
              refine tl_step rfl (oj_val (y_mulq (c := ((hl l : Nat) : Int)) fe_c (fe_t rfl) (by omega) (by omega)) ?_)
              refine tl_step rfl (oj_val (y_assign (fe_t rfl)) ?_)
              refine tl_nil ?_
              refine tx_then ?_
              refine tr_seq ?_
              refine tr_region ?_
              refine tl_step rfl (oj_val (y_makeFunc (fel_cons (fe_t rfl) fel_nil)) ?_)
              refine tl_step rfl (oj_val (y_assign (fe_t rfl)) ?_)
              refine tl_nil ?_
              refine tx_then ?_
              refine tr_seq ?_
              refine tr_draw (sel _ [0, 1]) (fun w h => h.sel _ rfl (by decide)) rfl ?_
              refine ta_float (i := 0) rfl (by kernel_rfl) (wants_none rfl) (yq_of (y_ldb 1 Try.isAgg39 (fe_t rfl) rfl rfl)) ?_
              refine ta_float (i := 1) rfl (by kernel_rfl) (wants_none rfl) (yq_of (y_indexI (m := 9) Try.underlying39 Try.sizeOf5 (fe_t rfl) fe_c (rdl_out hr) (by rw [cB_len]; omega) (by decide) (by decide) (by omega) rfl)) ?_
              refine ta_float (i := 2) rfl (by kernel_rfl) (wants_none rfl) (yq_of (y_ld Try.isAgg5 (fe_t rfl) (rdl_out hr) (getB (by omega)))) ?_
              refine ta_float (i := 3) rfl (by kernel_rfl) (wants_none rfl) (yq_of (y_convi Try.underlying5 Try.underlying3 (fe_t rfl) (IntWalk.i64_in _ (by omega)))) ?_
              refine ta_float (i := 4) rfl (by kernel_rfl) (wants_none rfl) (yq_of (y_move (fe_t rfl))) ?_
              refine ta_float (i := 6) rfl (by kernel_rfl) (wants_none rfl) (yq_of (y_ldb 1 Try.isAgg39 (fe_t rfl) rfl rfl)) ?_
              refine ta_float (i := 7) rfl (by kernel_rfl) (wants_none rfl) (yq_of (y_indexI (m := 1) Try.underlying39 Try.sizeOf5 (fe_t rfl) fe_c (rdl_out hr) (by rw [cB_len]; omega) (by decide) (by decide) (by omega) rfl)) ?_
              refine ta_float (i := 8) rfl (by kernel_rfl) (wants_none rfl) (yq_of (y_ld Try.isAgg5 (fe_t rfl) (rdl_out hr) (getB (by omega)))) ?_
              refine ta_float (i := 9) rfl (by kernel_rfl) (wants_none rfl) (yq_of (y_shrq (c := at_ l 1 / 4) (fe_t rfl) fe_c (by decide) (divq (by decide) (by decide)))) ?_
              refine ta_float (i := 10) rfl (by kernel_rfl) (wants_none rfl) (yq_of (y_convi Try.underlying5 Try.underlying3 (fe_t rfl) (IntWalk.i64_in _ (by omega)))) ?_
              refine ta_two (i := 5) (j := 12) rfl rfl (by kernel_rfl) (wants_none rfl) (wants_none rfl) ?_ ?_
              · refine oj_callF Try.call59 (fe_t rfl) (fel_cons (fe_c (v := (.int .i64 (((2 : Nat) : Int))))) fel_nil) (fun w' hS => twoR hr hn hz hm (hS.pick [1, 0] [_, _] rfl (by decide)) (2) (by omega)) (fun _ _ => ⟨fun w h => h.pick [1, 0] _ rfl (by decide), ?_⟩)
                refine ta_float (i := 11) rfl (by kernel_rfl) (wants_none rfl) (yq_of ((fun {u0 u1 u2} hx hb => y_build (is := [2, 5, 6]) (vs := [u0, u1, u2]) (cs := [.int .u8 0, .int .u8 0, .int .u8 0, .int .u8 0, .int .u8 0, .int .u8 0, .int .u8 0, .int .u8 0, u0, .int .i64 0, .int .i64 0, u1, u2]) rfl hx hb) (fel_cons (fe_t rfl) (fel_cons (fe_t rfl) (fel_cons (fe_t rfl) fel_nil))) (by kernel_rfl))) ?_
                refine ta_one (i := 12) rfl (by kernel_rfl) (wants_none rfl) (oj_alloc Try.zeroValue38 (fun hb => ⟨fun w h => h.pick [2, 1] _ rfl (by decide), ?_⟩))
                refine ta_one (i := 13) rfl (by kernel_rfl) (wants_none rfl) (oj_storeW 0 Try.sizeOf38 (fe_t rfl) (fe_t rfl) rfl rfl rfl rfl rfl (⟨fun w h => h.pick [2, 1] _ rfl (by decide), ?_⟩))
                refine ta_done (by kernel_rfl) ?_
                refine tx_then ?_
                refine tr_seq ?_
                refine tr_seq ?_
                refine tr_region ?_
                refine tl_step rfl (oj_val (y_move fe_c) ?_)
                refine tl_nil ?_
                refine tx_then ?_
                refine tr_block ?_
                refine tr_loop1 [8, 52, 53, 54, 55, 56, 57, 58, 59, 60, 61, 62, 63, 64, 65, 66, 67, 68, 69, 70, 71] (fun (k : Nat) => [(52, .int .i64 (k : Int))]) 0 (fun (k : Nat) => [(0, blk hb (hk4 l k))]) (fun (k : Nat) => k ≤ 4) (fun (k : Nat) => 4 - k) (0) (cov_cons (by first | rfl | exact v_int (by omega) | exact v_bool (by simp [*])) (cov_nil)) (fun w h => h) ?_ ?_
                · try dsimp only
                  omega
                intro k hp
                have hk := hp
                refine tr_seq ?_
                refine tr_region ?_
                refine tl_step rfl (oj_val (y_lss (fe_t rfl) fe_c) ?_)
                refine tl_nil ?_
                refine tx_then ?_
                refine tr_seq ?_
                refine tr_condp (fe_t rfl) (fun hq7 => ?_) (fun hq8 => ?_)
                · try (exfalso; omega)
                  all_goals
                    refine tr_skip ?_
                    refine tx_then ?_
                    refine tr_seq ?_
                    refine tr_block ?_
                    refine tr_seq ?_
                    refine tr_region ?_
                    refine tl_step rfl (oj_val (y_move (fe_t rfl)) ?_)
                    refine tl_step rfl (oj_val (y_assign (fe_t rfl)) ?_)
                    refine tl_nil ?_
                    refine tx_then ?_
                    refine tr_draw (sel _ [1, 2]) (fun w h => h.sel _ rfl (by decide)) rfl ?_
                    refine ta_float (i := 0) rfl (by kernel_rfl) (wants_none rfl) (yq_of (y_move (fe_t rfl))) ?_
                    refine ta_float (i := 1) rfl (by kernel_rfl) (wants_none rfl) (yq_of (y_move (fe_t rfl))) ?_
                    refine ta_float (i := 2) rfl (by kernel_rfl) (wants_none rfl) (yq_of (y_ldb 0 Try.isAgg39 (fe_t rfl) rfl rfl)) ?_
                    refine ta_float (i := 3) rfl (by kernel_rfl) (wants_none rfl) (yq_of (y_move (fe_t rfl))) ?_
                    refine ta_float (i := 4) rfl (by kernel_rfl) (wants_none rfl) (yq_of (y_add fe_c (fe_t rfl) (by omega))) ?_
                    refine ta_float (i := 5) rfl (by kernel_rfl) (wants_none rfl) (yq_of (y_indexI Try.underlying39 Try.sizeOf5 (fe_t rfl) (fe_t rfl) (rdl_out hr) (by rw [cB_len]; omega) (by decide) (by omega) (by omega) (Nat.mul_one _))) ?_
                    refine ta_float (i := 6) rfl (by kernel_rfl) (wants_none rfl) (yq_of (y_ld (v := .int .u8 (at_ l (12 + k))) Try.isAgg5 (fe_t rfl) (rdl_out hr) (by rw [show ((12 + (k : Int)).toNat : Nat) = 12 + k by omega]; exact getB (by omega)))) ?_
                    refine ta_float (i := 7) rfl (by kernel_rfl) (wants_none rfl) (yq_of (y_ldb 0 Try.isAgg39 (fe_t rfl) rfl rfl)) ?_
                    refine ta_float (i := 8) rfl (by kernel_rfl) (wants_none rfl) (yq_of (y_move (fe_t rfl))) ?_
                    refine ta_float (i := 9) rfl (by kernel_rfl) (wants_none rfl) (yq_of (y_add fe_c (fe_t rfl) (by omega))) ?_
                    refine ta_float (i := 10) rfl (by kernel_rfl) (wants_none rfl) (yq_of (y_indexI Try.underlying39 Try.sizeOf5 (fe_t rfl) (fe_t rfl) (rdl_out hr) (by rw [cB_len]; omega) (by decide) (by omega) (by omega) (Nat.mul_one _))) ?_
                    refine ta_float (i := 11) rfl (by kernel_rfl) (wants_none rfl) (yq_of (y_ld (v := .int .u8 (at_ l (16 + k))) Try.isAgg5 (fe_t rfl) (rdl_out hr) (by rw [show ((16 + (k : Int)).toNat : Nat) = 16 + k by omega]; exact getB (by omega)))) ?_
                    refine ta_float (i := 12) rfl (by kernel_rfl) (wants_none rfl) (yq_of (y_fieldAddr (td := 24) Try.underlying38 rfl rfl Try.sizeOf24 (o' := 0) rfl (fe_t rfl))) ?_
                    refine ta_float (i := 13) rfl (by kernel_rfl) (wants_none rfl) (yq_of (y_indexPO (o := 0) Try.underlying24 Try.sizeOf5 (fe_t rfl) (fe_t rfl) (by omega) (by omega))) ?_
                    refine ta_float (i := 15) rfl (by kernel_rfl) (wants_none rfl) (yq_of (y_fieldAddr (td := 24) Try.underlying38 rfl rfl Try.sizeOf24 (o' := 4) rfl (fe_t rfl))) ?_
                    refine ta_one (i := 14) rfl (by kernel_rfl) (wants_none rfl) (oj_storeP (q := 0 + (k : Int).toNat) 0 Try.sizeOf5 (fe_t rfl) (fe_t rfl) rfl rfl rfl (by simp [hk4]; try omega) (⟨fun w h => h.pick [1, 2] _ rfl (by decide), ?_⟩))
                    refine ta_float (i := 16) rfl (by kernel_rfl) (wants_none rfl) (yq_of (y_indexPO (o := 4) Try.underlying24 Try.sizeOf5 (fe_t rfl) (fe_t rfl) (by omega) (by omega))) ?_
                    refine ta_one (i := 17) rfl (by kernel_rfl) (wants_none rfl) (oj_storeP (q := 4 + (k : Int).toNat) 0 Try.sizeOf5 (fe_t rfl) (fe_t rfl) rfl rfl rfl (by simp [hk4]; try omega) (⟨fun w h => h.pick [1, 2] _ rfl (by decide), ?_⟩))
                    refine ta_done (by kernel_rfl) ?_
                    refine tx_in ?_
                    refine tx_then ?_
                    refine tr_as (r' := blk hb (hk4 l (k + 1))) 0 rfl (by rw [← hk4_set (by omega)]; rfl) ?_
                    refine tr_region ?_
                    refine tl_step rfl (oj_val (y_inc (fe_t rfl) fe_c (by omega)) ?_)
                    refine tl_step rfl (oj_val (y_move (fe_t rfl)) ?_)
                    refine tl_nil ?_
                    apply tx_back1 (k + 1)
                    · exact (cov_cons (by first | rfl | exact v_int (by omega) | exact v_bool (by simp [*])) (cov_nil))
                    · repeat (first | exact over_nil | refine over_put rfl ?_ | refine over_drop rfl ?_)
                    · exact fun w h => h.pick [0, 1, 2] _ rfl (by decide)
                    · exact ⟨by omega, by omega⟩
                · try (exfalso; omega)
                  all_goals
                    refine tr_exit ?_
                    refine tx_then_exit ?_
                    refine tx_then_exit ?_
                    refine tx_in_exit ?_
                    refine tx_then ?_
                    refine tr_cut1 [9, 72, 73, 74, 75, 76, 77, 78, 79, 80, 81, 82, 83, 84, 85] (fun (p9 : Bool) => [(9, .bool p9)]) 0 (fun (p9 : Bool) => [(0, blk hb [.int .u8 (h0 l).s0, .int .u8 (h0 l).s1, .int .u8 (h0 l).s2, .int .u8 (h0 l).s3, .int .u8 (h0 l).d0, .int .u8 (h0 l).d1, .int .u8 (h0 l).d2, .int .u8 (h0 l).d3, (.int .i64 ((h0 l).pr)), (.int .i64 ((h0 l).sp)), (.int .i64 ((h0 l).dp)), (.int .i64 ((h0 l).ln)), (.int .i64 ((h0 l).mr))])]) (fun (p9 : Bool) => (p9 = true → ((at_ l 9 = 6 ∨ at_ l 9 = 17) ∧ two l 6 % 8192 = 0)) ∧ (p9 = false → ¬ ((at_ l 9 = 6 ∨ at_ l 9 = 17) ∧ two l 6 % 8192 = 0))) ?_ ?_
                    · obtain rfl : k = 4 := by omega
                      refine tr_as (r' := blk hb [.int .u8 (h0 l).s0, .int .u8 (h0 l).s1, .int .u8 (h0 l).s2, .int .u8 (h0 l).s3, .int .u8 (h0 l).d0, .int .u8 (h0 l).d1, .int .u8 (h0 l).d2, .int .u8 (h0 l).d3, (.int .i64 ((h0 l).pr)), (.int .i64 ((h0 l).sp)), (.int .i64 ((h0 l).dp)), (.int .i64 ((h0 l).ln)), (.int .i64 ((h0 l).mr))]) 0 rfl rfl ?_
                      refine tr_region ?_
                      refine tl_step rfl (oj_val (y_fieldAddr (td := 3) Try.underlying38 rfl rfl Try.sizeOf3 (o' := 8) rfl (fe_t rfl)) ?_)
                      refine tl_step rfl (oj_val (y_ldb 0 Try.isAgg3 (fe_t rfl) rfl rfl) ?_)
                      refine tl_step rfl (oj_val (y_eq (fe_t rfl) fe_c) ?_)
                      refine tl_step rfl (oj_val (y_move (fe_t rfl)) ?_)
                      refine tl_splitp (d := 75) rfl (fun hq9 => ?_) (fun hq10 => ?_)
                      · try (exfalso; omega)
                        all_goals
                          refine tl_skip rfl rfl rfl rfl ?_
                          refine tl_skip rfl rfl rfl rfl ?_
                          refine tl_skip rfl rfl rfl rfl ?_
                          refine tl_step rfl (oj_val (y_pickt (fe_t rfl) fe_c) ?_)
                          refine tl_step rfl (oj_val (y_move (fe_t rfl)) ?_)
                          refine tl_want rfl rfl rfl (oj_val (y_move (fe_t rfl)) ?_)
                          refine tl_want rfl rfl rfl (oj_callF Try.call59 (fe_t rfl) (fel_cons (fe_c (v := (.int .i64 (((6 : Nat) : Int))))) fel_nil) (fun w' hS => twoR hr hn hz hm (hS.pick [1, 0, 2] [_, _, _] rfl (by decide)) (6) (by omega)) (fun _ _ => ?_))
                          refine tl_want rfl rfl rfl (oj_val (y_andq (c := two l 6 % 8192) (fe_t rfl) fe_c (and13 _)) ?_)
                          refine tl_want rfl rfl rfl (oj_val (y_eq (fe_t rfl) fe_c) ?_)
                          refine tl_step rfl (oj_val (y_pickt (fe_t rfl) (fe_t rfl)) ?_)
                          refine tl_step rfl (oj_val (y_assign (fe_t rfl)) ?_)
                          refine tl_nil ?_
                          apply tx_back1 (_)
                          · exact (cov_cons (by first | rfl | exact v_int (by omega) | exact v_bool (by simp [*])) (cov_nil))
                          · repeat (first | exact over_nil | refine over_put rfl ?_ | refine over_drop rfl ?_)
                          · exact fun w h => h.pick [1, 0, 2] _ rfl (by decide)
                          · refine ⟨fun h9 => ?_, fun h9 => ?_⟩ <;> first | omega | (simp only [decide_eq_true_eq, decide_eq_false_iff_not] at h9; omega) | exact absurd h9 (by decide)
                      · try (exfalso; omega)
                        all_goals
                          refine tl_want rfl rfl rfl (oj_val (y_fieldAddr (td := 3) Try.underlying38 rfl rfl Try.sizeOf3 (o' := 8) rfl (fe_t rfl)) ?_)
                          refine tl_want rfl rfl rfl (oj_val (y_ldb 0 Try.isAgg3 (fe_t rfl) rfl rfl) ?_)
                          refine tl_want rfl rfl rfl (oj_val (y_eq (fe_t rfl) fe_c) ?_)
                          refine tl_step rfl (oj_val (y_pickf (fe_t rfl) (fe_t rfl)) ?_)
                          refine tl_step rfl (oj_val (y_move (fe_t rfl)) ?_)
                          refine tl_splitp (d := 80) rfl (fun hq11 => ?_) (fun hq12 => ?_)
                          · try (exfalso; omega)
                            all_goals
                              refine tl_want rfl rfl rfl (oj_val (y_move (fe_t rfl)) ?_)
                              refine tl_want rfl rfl rfl (oj_callF Try.call59 (fe_t rfl) (fel_cons (fe_c (v := (.int .i64 (((6 : Nat) : Int))))) fel_nil) (fun w' hS => twoR hr hn hz hm (hS.pick [1, 0, 2] [_, _, _] rfl (by decide)) (6) (by omega)) (fun _ _ => ?_))
                              refine tl_want rfl rfl rfl (oj_val (y_andq (c := two l 6 % 8192) (fe_t rfl) fe_c (and13 _)) ?_)
                              refine tl_want rfl rfl rfl (oj_val (y_eq (fe_t rfl) fe_c) ?_)
                              refine tl_step rfl (oj_val (y_pickt (fe_t rfl) (fe_t rfl)) ?_)
                              refine tl_step rfl (oj_val (y_assign (fe_t rfl)) ?_)
                              refine tl_nil ?_
                              apply tx_back1 (_)
                              · exact (cov_cons (by first | rfl | exact v_int (by omega) | exact v_bool (by simp [*])) (cov_nil))
                              · repeat (first | exact over_nil | refine over_put rfl ?_ | refine over_drop rfl ?_)
                              · exact fun w h => h.pick [1, 0, 2] _ rfl (by decide)
                              · refine ⟨fun h9 => ?_, fun h9 => ?_⟩ <;> first | omega | (simp only [decide_eq_true_eq, decide_eq_false_iff_not] at h9; omega) | exact absurd h9 (by decide)
                          · try (exfalso; omega)
                            all_goals
                              refine tl_skip rfl rfl rfl rfl ?_
                              refine tl_skip rfl rfl rfl rfl ?_
                              refine tl_skip rfl rfl rfl rfl ?_
                              refine tl_skip rfl rfl rfl rfl ?_
                              refine tl_step rfl (oj_val (y_pickf (fe_t rfl) fe_c) ?_)
                              refine tl_step rfl (oj_val (y_assign (fe_t rfl)) ?_)
                              refine tl_nil ?_
                              apply tx_back1 (_)
                              · exact (cov_cons (by first | rfl | exact v_int (by omega) | exact v_bool (by simp [*])) (cov_nil))
                              · repeat (first | exact over_nil | refine over_put rfl ?_ | refine over_drop rfl ?_)
                              · exact fun w h => h.pick [0, 1, 2] _ rfl (by decide)
                              · refine ⟨fun h9 => ?_, fun h9 => ?_⟩ <;> first | omega | (simp only [decide_eq_true_eq, decide_eq_false_iff_not] at h9; omega) | exact absurd h9 (by decide)
                    · intro p9 hp
                      obtain ⟨hpt9, hpf9⟩ := hp
                      refine tr_seq ?_
                      refine tr_block ?_
                      refine tr_seq ?_
                      refine tr_region ?_
                      refine tl_step rfl (oj_val (y_ldb 1 Try.isAgg39 (fe_t rfl) rfl rfl) ?_)
                      refine tl_step rfl (oj_val (y_len Try.underlying39 (fe_t rfl)) ?_)
                      refine tl_step rfl (oj_val (y_move (fe_t rfl)) ?_)
                      refine tl_step rfl (oj_val (y_lss (fe_t rfl) (fe_t rfl)) ?_)
                      refine tl_step rfl (oj_val (y_move (fe_t rfl)) ?_)
                      refine tl_splitp (d := 91) rfl (fun hq13 => ?_) (fun hq14 => ?_)
                      · try (exfalso; omega)
                        all_goals
                          refine tl_skip rfl rfl rfl rfl ?_
                          refine tl_skip rfl rfl rfl rfl ?_
                          refine tl_skip rfl rfl rfl rfl ?_
                          refine tl_skip rfl rfl rfl rfl ?_
                          refine tl_skip rfl rfl rfl rfl ?_
                          refine tl_step rfl (oj_val (y_pickt (fe_t rfl) fe_c) ?_)
                          refine tl_step rfl (oj_val (y_assign (fe_t rfl)) ?_)
                          refine tl_nil ?_
                          refine tx_then ?_
                          refine tr_condt (fe_t rfl) ?_
                          refine tr_seq ?_
                          refine tr_region ?_
                          refine tl_step rfl (oj_val (y_move (fe_t rfl)) ?_)
                          refine tl_step rfl (oj_callv Try.call58 (fe_t rfl) (fel_cons fe_c fel_nil) (fun w' hS => noE _ w') ?_)
                          refine tl_step rfl (oj_val (y_extract (fe_t rfl) rfl) ?_)
                          refine tl_step rfl (oj_val (y_extract (fe_t rfl) rfl) ?_)
                          refine tl_step rfl (oj_storeW 2 Try.sizeOf38 (fe_t rfl) (fe_t rfl) rfl rfl rfl rfl rfl (?_))
                          refine tl_step rfl (oj_val (y_assign (fe_t rfl)) ?_)
                          refine tl_nil ?_
                          refine tx_then ?_
                          refine tr_ret ?_
                          refine tx_in_ret ?_
                          refine tx_then_ret ?_
                          refine tx_ret (res2 Try.results18 (rok_b 2 Try.isAgg38 Try.sizeOf38 rfl rfl rfl) (rok_t rfl)) (fun w' hS => ?_)
                          have hw : rd l = (zH, 8) := by
                            first
                            | exact rd_c (by omega) (by omega) (by omega)
                            | (exfalso; simp_all; done)
                          exact ⟨by rw [hw]; rfl, hS.pick [] _ rfl (by decide)⟩
                      · try (exfalso; omega)
                        all_goals
                          refine tl_want rfl rfl rfl (oj_val (y_ldb 1 Try.isAgg39 (fe_t rfl) rfl rfl) ?_)
                          refine tl_want rfl rfl rfl (oj_val (y_len Try.underlying39 (fe_t rfl)) ?_)
                          refine tl_want rfl rfl rfl (oj_val (y_fieldAddr (td := 3) Try.underlying38 rfl rfl Try.sizeOf3 (o' := 11) rfl (fe_t rfl)) ?_)
                          refine tl_want rfl rfl rfl (oj_val (y_ldb 0 Try.isAgg3 (fe_t rfl) rfl rfl) ?_)
                          refine tl_want rfl rfl rfl (oj_val (y_lss (fe_t rfl) (fe_t rfl)) ?_)
                          refine tl_step rfl (oj_val (y_pickf (fe_t rfl) (fe_t rfl)) ?_)
                          refine tl_step rfl (oj_val (y_assign (fe_t rfl)) ?_)
                          refine tl_nil ?_
                          refine tx_then ?_
                          refine tr_condp (fe_t rfl) (fun hq15 => ?_) (fun hq16 => ?_)
                          · try (exfalso; omega)
                            all_goals
                              refine tr_seq ?_
                              refine tr_region ?_
                              refine tl_step rfl (oj_val (y_move (fe_t rfl)) ?_)
                              refine tl_step rfl (oj_callv Try.call58 (fe_t rfl) (fel_cons fe_c fel_nil) (fun w' hS => noE _ w') ?_)
                              refine tl_step rfl (oj_val (y_extract (fe_t rfl) rfl) ?_)
                              refine tl_step rfl (oj_val (y_extract (fe_t rfl) rfl) ?_)
                              refine tl_step rfl (oj_storeW 2 Try.sizeOf38 (fe_t rfl) (fe_t rfl) rfl rfl rfl rfl rfl (?_))
                              refine tl_step rfl (oj_val (y_assign (fe_t rfl)) ?_)
                              refine tl_nil ?_
                              refine tx_then ?_
                              refine tr_ret ?_
                              refine tx_in_ret ?_
                              refine tx_then_ret ?_
                              refine tx_ret (res2 Try.results18 (rok_b 2 Try.isAgg38 Try.sizeOf38 rfl rfl rfl) (rok_t rfl)) (fun w' hS => ?_)
                              have hw : rd l = (zH, 8) := by
                                first
                                | exact rd_c (by omega) (by omega) (by omega)
                                | (exfalso; simp_all; done)
                              exact ⟨by rw [hw]; rfl, hS.pick [] _ rfl (by decide)⟩
                          · try (exfalso; omega)
                            all_goals
                              refine tr_seq ?_
                              refine tr_region ?_
                              refine tl_step rfl (oj_val (y_fieldAddr (td := 3) Try.underlying38 rfl rfl Try.sizeOf3 (o' := 11) rfl (fe_t rfl)) ?_)
                              refine tl_step rfl (oj_val (y_ldb 0 Try.isAgg3 (fe_t rfl) rfl rfl) ?_)
                              refine tl_step rfl (oj_val (y_move (fe_t rfl)) ?_)
                              refine tl_step rfl (oj_val (y_lss (fe_t rfl) (fe_t rfl)) ?_)
                              refine tl_step rfl (oj_val (y_assign (fe_t rfl)) ?_)
                              refine tl_nil ?_
                              refine tx_then ?_
                              refine tr_condp (fe_t rfl) (fun hq17 => ?_) (fun hq18 => ?_)
                              · try (exfalso; omega)
                                all_goals
                                  refine tr_seq ?_
                                  refine tr_region ?_
                                  refine tl_step rfl (oj_val (y_move (fe_t rfl)) ?_)
                                  refine tl_step rfl (oj_callv Try.call58 (fe_t rfl) (fel_cons fe_c fel_nil) (fun w' hS => noE _ w') ?_)
                                  refine tl_step rfl (oj_val (y_extract (fe_t rfl) rfl) ?_)
                                  refine tl_step rfl (oj_val (y_extract (fe_t rfl) rfl) ?_)
                                  refine tl_step rfl (oj_storeW 2 Try.sizeOf38 (fe_t rfl) (fe_t rfl) rfl rfl rfl rfl rfl (?_))
                                  refine tl_step rfl (oj_val (y_assign (fe_t rfl)) ?_)
                                  refine tl_nil ?_
                                  refine tx_then ?_
                                  refine tr_ret ?_
                                  refine tx_in_ret ?_
                                  refine tx_then_ret ?_
                                  refine tx_ret (res2 Try.results18 (rok_b 2 Try.isAgg38 Try.sizeOf38 rfl rfl rfl) (rok_t rfl)) (fun w' hS => ?_)
                                  have hw : rd l = (zH, 1) := by
                                    first
                                    | exact rd_d (by omega) (by omega) (by omega) (by omega)
                                    | (exfalso; simp_all; done)
                                  exact ⟨by rw [hw]; rfl, hS.pick [] _ rfl (by decide)⟩
                              · try (exfalso; omega)
                                all_goals
                                  refine tr_seq ?_
                                  refine tr_region ?_
                                  refine tl_step rfl (oj_val (y_ldb 1 Try.isAgg39 (fe_t rfl) rfl rfl) ?_)
                                  refine tl_step rfl (oj_val (y_move (fe_t rfl)) ?_)
                                  refine tl_step rfl (oj_val (y_cutH Try.underlying39 Try.sizeOf5 (fe_t rfl) (fe_t rfl) (by omega)) ?_)
                                  refine tl_step rfl (oj_callv Try.call60 fe_f (fel_cons (fe_t rfl) fel_nil) (fun w' hS => ofE _ _ _ (l.take (hl l)) w' ((rdl_pre (rdl_out hr) (cB_cut l (hl l))) w' hS) rfl (by rw [List.length_take]; omega) (fun z hz9 => hz z (List.mem_of_mem_take hz9)) (by omega)) ?_)
                                  refine tl_step rfl (oj_val (y_neq (fe_t rfl) fe_c) ?_)
                                  refine tl_step rfl (oj_val (y_assign (fe_t rfl)) ?_)
                                  refine tl_nil ?_
                                  refine tx_then ?_
                                  refine tr_condp (fe_t rfl) (fun hq19 => ?_) (fun hq20 => ?_)
                                  · try (exfalso; omega)
                                    all_goals
                                      refine tr_seq ?_
                                      refine tr_region ?_
                                      refine tl_step rfl (oj_val (y_move (fe_t rfl)) ?_)
                                      refine tl_step rfl (oj_callv Try.call58 (fe_t rfl) (fel_cons fe_c fel_nil) (fun w' hS => noE _ w') ?_)
                                      refine tl_step rfl (oj_val (y_extract (fe_t rfl) rfl) ?_)
                                      refine tl_step rfl (oj_val (y_extract (fe_t rfl) rfl) ?_)
                                      refine tl_step rfl (oj_storeW 2 Try.sizeOf38 (fe_t rfl) (fe_t rfl) rfl rfl rfl rfl rfl (?_))
                                      refine tl_step rfl (oj_val (y_assign (fe_t rfl)) ?_)
                                      refine tl_nil ?_
                                      refine tx_then ?_
                                      refine tr_ret ?_
                                      refine tx_in_ret ?_
                                      refine tx_then_ret ?_
                                      refine tx_ret (res2 Try.results18 (rok_b 2 Try.isAgg38 Try.sizeOf38 rfl rfl rfl) (rok_t rfl)) (fun w' hS => ?_)
                                      have hw : rd l = (zH, 7) := by
                                        first
                                        | exact rd_e (by omega) (by omega) (by omega) (by omega) (by omega)
                                        | (exfalso; simp_all; done)
                                      exact ⟨by rw [hw]; rfl, hS.pick [] _ rfl (by decide)⟩
                                  · try (exfalso; omega)
                                    all_goals
                                      refine tr_seq ?_
                                      refine tr_region ?_
                                      refine tl_step rfl (oj_val (y_move (fe_t rfl)) ?_)
                                      refine tl_step rfl (oj_val (y_move (fe_t rfl)) ?_)
                                      refine tl_split (d := 123) rfl (fun hq21 => ?_) (fun hq22 => ?_)
                                      · try (exfalso; omega)
                                        all_goals
                                          refine tl_want rfl rfl rfl (oj_val (y_fieldAddr (td := 3) Try.underlying38 rfl rfl Try.sizeOf3 (o' := 11) rfl (fe_t rfl)) ?_)
                                          refine tl_want rfl rfl rfl (oj_val (y_ldb 0 Try.isAgg3 (fe_t rfl) rfl rfl) ?_)
                                          refine tl_want rfl rfl rfl (oj_val (y_move (fe_t rfl)) ?_)
                                          refine tl_want rfl rfl rfl (oj_val (y_add (fe_t rfl) fe_c (by omega)) ?_)
                                          refine tl_want rfl rfl rfl (oj_val (y_lss (fe_t rfl) (fe_t rfl)) ?_)
                                          refine tl_step rfl (oj_val (y_pickt (fe_t rfl) (fe_t rfl)) ?_)
                                          refine tl_step rfl (oj_val (y_assign (fe_t rfl)) ?_)
                                          refine tl_nil ?_
                                          refine tx_then ?_
                                          refine tr_condp (fe_t rfl) (fun hq23 => ?_) (fun hq24 => ?_)
                                          · try (exfalso; omega)
                                            all_goals
                                              have hP : ports l := hpt9 (by simp_all)
                                              refine tr_seq ?_
                                              refine tr_region ?_
                                              refine tl_step rfl (oj_val (y_move (fe_t rfl)) ?_)
                                              refine tl_step rfl (oj_callv Try.call58 (fe_t rfl) (fel_cons fe_c fel_nil) (fun w' hS => noE _ w') ?_)
                                              refine tl_step rfl (oj_val (y_extract (fe_t rfl) rfl) ?_)
                                              refine tl_step rfl (oj_val (y_extract (fe_t rfl) rfl) ?_)
                                              refine tl_step rfl (oj_storeW 2 Try.sizeOf38 (fe_t rfl) (fe_t rfl) rfl rfl rfl rfl rfl (?_))
                                              refine tl_step rfl (oj_val (y_assign (fe_t rfl)) ?_)
                                              refine tl_nil ?_
                                              refine tx_then ?_
                                              refine tr_ret ?_
                                              refine tx_in_ret ?_
                                              refine tx_then_ret ?_
                                              refine tx_ret (res2 Try.results18 (rok_b 2 Try.isAgg38 Try.sizeOf38 rfl rfl rfl) (rok_t rfl)) (fun w' hS => ?_)
                                              have hw : rd l = (zH, 8) := by
                                                first
                                                | exact rd_g (by omega) (by omega) (by omega) (by omega) (by omega) hP (by omega)
                                                | (exfalso; simp_all; done)
                                              exact ⟨by rw [hw]; rfl, hS.pick [] _ rfl (by decide)⟩
                                          · try (exfalso; omega)
                                            all_goals
                                              refine tr_skip ?_
                                              refine tx_in ?_
                                              refine tx_then ?_
                                              refine tr_seq ?_
                                              refine tr_seq ?_
                                              refine tr_region ?_
                                              refine tl_step rfl (oj_val (y_move (fe_t rfl)) ?_)
                                              refine tl_nil ?_
                                              refine tx_then ?_
                                              refine tr_cond (fe_t rfl) (fun hq25 => ?_) (fun hq26 => ?_)
                                              · try (exfalso; omega)
                                                all_goals
                                                  have hP : ports l := hpt9 hq25
                                                  refine tr_region ?_
                                                  refine tl_step rfl (oj_val (y_move (fe_t rfl)) ?_)
                                                  refine tl_step rfl (oj_val (y_move (fe_t rfl)) ?_)
                                                  refine tl_step rfl (oj_callF Try.call59 (fe_t rfl) (fel_cons (fe_t rfl) fel_nil) (fun w' hS => twoR hr hn hz hm (hS.pick [1, 0, 2] [_, _, _] rfl (by decide)) (hl l) (by omega)) (fun _ _ => ?_))
                                                  refine tl_step rfl (oj_val (y_move (fe_t rfl)) ?_)
                                                  refine tl_step rfl (oj_val (y_move (fe_t rfl)) ?_)
                                                  refine tl_step rfl (oj_val (y_add (fe_t rfl) fe_c (by omega)) ?_)
                                                  refine tl_step rfl (oj_callF Try.call59 (fe_t rfl) (fel_cons (fe_i (by omega) rfl) fel_nil) (fun w' hS => twoR hr hn hz hm (hS.pick [0, 1, 2] [_, _, _] rfl (by decide)) (hl l + 2) (by omega)) (fun _ _ => ?_))
                                                  refine tl_step rfl (oj_val (y_fieldAddr (td := 3) Try.underlying38 rfl rfl Try.sizeOf3 (o' := 9) rfl (fe_t rfl)) ?_)
                                                  refine tl_step rfl (oj_store1 1 Try.sizeOf3 (fe_t rfl) (fe_t rfl) rfl rfl rfl rfl (?_))
                                                  refine tl_step rfl (oj_val (y_fieldAddr (td := 3) Try.underlying38 rfl rfl Try.sizeOf3 (o' := 10) rfl (fe_t rfl)) ?_)
                                                  refine tl_step rfl (oj_store1 1 Try.sizeOf3 (fe_t rfl) (fe_t rfl) rfl rfl rfl rfl (?_))
                                                  refine tl_nil ?_
                                                  refine tx_then ?_
                                                  refine tr_seq ?_
                                                  refine tr_region ?_
                                                  refine tl_step rfl (oj_val (y_ldbA 1 Try.isAgg38 Try.sizeOf38 (fe_t rfl) rfl rfl rfl) ?_)
                                                  refine tl_step rfl (oj_storeW 2 Try.sizeOf38 (fe_t rfl) (fe_t rfl) rfl rfl rfl rfl rfl (?_))
                                                  refine tl_step rfl (oj_val (y_assign fe_c) ?_)
                                                  refine tl_nil ?_
                                                  refine tx_then ?_
                                                  refine tr_ret ?_
                                                  refine tx_ret (res2 Try.results18 (rok_b 2 Try.isAgg38 Try.sizeOf38 rfl rfl rfl) (rok_t rfl)) (fun w' hS => ?_)
                                                  have hw : rd l = ({ h0 l with sp := two l (hl l), dp := two l (hl l + 2) }, 0) := by
                                                    first
                                                    | exact rd_h (by omega) (by omega) (by omega) (by omega) (by omega) hP (by omega)
                                                    | (exfalso; simp_all; done)
                                                  exact ⟨by rw [hw]; rfl, hS.pick [] _ rfl (by decide)⟩
                                              · try (exfalso; omega)
                                                all_goals
                                                  have hP : ¬ ports l := hpf9 hq26
                                                  refine tr_skip ?_
                                                  refine tx_then ?_
                                                  refine tr_seq ?_
                                                  refine tr_region ?_
                                                  refine tl_step rfl (oj_val (y_ldbA 0 Try.isAgg38 Try.sizeOf38 (fe_t rfl) rfl rfl rfl) ?_)
                                                  refine tl_step rfl (oj_storeW 2 Try.sizeOf38 (fe_t rfl) (fe_t rfl) rfl rfl rfl rfl rfl (?_))
                                                  refine tl_step rfl (oj_val (y_assign fe_c) ?_)
                                                  refine tl_nil ?_
                                                  refine tx_then ?_
                                                  refine tr_ret ?_
                                                  refine tx_ret (res2 Try.results18 (rok_b 2 Try.isAgg38 Try.sizeOf38 rfl rfl rfl) (rok_t rfl)) (fun w' hS => ?_)
                                                  have hw : rd l = (h0 l, 0) := by
                                                    first
                                                    | exact rd_f (by omega) (by omega) (by omega) (by omega) (by omega) hP
                                                    | (exfalso; simp_all; done)
                                                  exact ⟨by rw [hw]; rfl, hS.pick [] _ rfl (by decide)⟩
                                      · try (exfalso; omega)
                                        all_goals
                                          refine tl_skip rfl rfl rfl rfl ?_
                                          refine tl_skip rfl rfl rfl rfl ?_
                                          refine tl_skip rfl rfl rfl rfl ?_
                                          refine tl_skip rfl rfl rfl rfl ?_
                                          refine tl_skip rfl rfl rfl rfl ?_
                                          refine tl_step rfl (oj_val (y_pickf (fe_t rfl) fe_c) ?_)
                                          refine tl_step rfl (oj_val (y_assign (fe_t rfl)) ?_)
                                          refine tl_nil ?_
                                          refine tx_then ?_
                                          refine tr_condf (fe_t rfl) ?_
                                          refine tr_skip ?_
                                          refine tx_in ?_
                                          refine tx_then ?_
                                          refine tr_seq ?_
                                          refine tr_seq ?_
                                          refine tr_region ?_
                                          refine tl_step rfl (oj_val (y_move (fe_t rfl)) ?_)
                                          refine tl_nil ?_
                                          refine tx_then ?_
                                          refine tr_cond (fe_t rfl) (fun hq27 => ?_) (fun hq28 => ?_)
                                          · exact Bool.noConfusion ((by assumption : p9 = false).symm.trans hq27)
                                          · try (exfalso; omega)
                                            all_goals
                                              have hP : ¬ ports l := hpf9 hq28
                                              refine tr_skip ?_
                                              refine tx_then ?_
                                              refine tr_seq ?_
                                              refine tr_region ?_
                                              refine tl_step rfl (oj_val (y_ldbA 0 Try.isAgg38 Try.sizeOf38 (fe_t rfl) rfl rfl rfl) ?_)
                                              refine tl_step rfl (oj_storeW 2 Try.sizeOf38 (fe_t rfl) (fe_t rfl) rfl rfl rfl rfl rfl (?_))
                                              refine tl_step rfl (oj_val (y_assign fe_c) ?_)
                                              refine tl_nil ?_
                                              refine tx_then ?_
                                              refine tr_ret ?_
                                              refine tx_ret (res2 Try.results18 (rok_b 2 Try.isAgg38 Try.sizeOf38 rfl rfl rfl) (rok_t rfl)) (fun w' hS => ?_)
                                              have hw : rd l = (h0 l, 0) := by
                                                first
                                                | exact rd_f (by omega) (by omega) (by omega) (by omega) (by omega) hP
                                                | (exfalso; simp_all; done)
                                              exact ⟨by rw [hw]; rfl, hS.pick [] _ rfl (by decide)⟩
              · refine oj_alloc Try.zeroValue38 (fun hb => ⟨fun w h => h.pick [1, 2] _ rfl (by decide), ?_⟩)
                refine ta_one (i := 5) rfl (by kernel_rfl) (wants_none rfl) (oj_callF Try.call59 (fe_t rfl) (fel_cons (fe_c (v := (.int .i64 (((2 : Nat) : Int))))) fel_nil) (fun w' hS => twoR hr hn hz hm (hS.pick [2, 0, 1] [_, _, _] rfl (by decide)) (2) (by omega)) (fun _ _ => ⟨fun w h => h.pick [2, 0] _ rfl (by decide), ?_⟩))
                refine ta_float (i := 11) rfl (by kernel_rfl) (wants_none rfl) (yq_of ((fun {u0 u1 u2} hx hb => y_build (is := [2, 5, 6]) (vs := [u0, u1, u2]) (cs := [.int .u8 0, .int .u8 0, .int .u8 0, .int .u8 0, .int .u8 0, .int .u8 0, .int .u8 0, .int .u8 0, u0, .int .i64 0, .int .i64 0, u1, u2]) rfl hx hb) (fel_cons (fe_t rfl) (fel_cons (fe_t rfl) (fel_cons (fe_t rfl) fel_nil))) (by kernel_rfl))) ?_
                refine ta_one (i := 13) rfl (by kernel_rfl) (wants_none rfl) (oj_storeW 1 Try.sizeOf38 (fe_t rfl) (fe_t rfl) rfl rfl rfl rfl rfl (⟨fun w h => h.pick [2, 0] _ rfl (by decide), ?_⟩))
                refine ta_done (by kernel_rfl) ?_
                refine tx_then ?_
                refine tr_seq ?_
                refine tr_seq ?_
                refine tr_region ?_
                refine tl_step rfl (oj_val (y_move fe_c) ?_)
                refine tl_nil ?_
                refine tx_then ?_
                refine tr_block ?_
                refine tr_loop1 [8, 52, 53, 54, 55, 56, 57, 58, 59, 60, 61, 62, 63, 64, 65, 66, 67, 68, 69, 70, 71] (fun (k : Nat) => [(52, .int .i64 (k : Int))]) 0 (fun (k : Nat) => [(1, blk hb (hk4 l k))]) (fun (k : Nat) => k ≤ 4) (fun (k : Nat) => 4 - k) (0) (cov_cons (by first | rfl | exact v_int (by omega) | exact v_bool (by simp [*])) (cov_nil)) (fun w h => h) ?_ ?_
                · try dsimp only
                  omega
                intro k hp
                have hk := hp
                refine tr_seq ?_
                refine tr_region ?_
                refine tl_step rfl (oj_val (y_lss (fe_t rfl) fe_c) ?_)
                refine tl_nil ?_
                refine tx_then ?_
                refine tr_seq ?_
                refine tr_condp (fe_t rfl) (fun hq29 => ?_) (fun hq30 => ?_)
                · try (exfalso; omega)
                  all_goals
                    refine tr_skip ?_
                    refine tx_then ?_
                    refine tr_seq ?_
                    refine tr_block ?_
                    refine tr_seq ?_
                    refine tr_region ?_
                    refine tl_step rfl (oj_val (y_move (fe_t rfl)) ?_)
                    refine tl_step rfl (oj_val (y_assign (fe_t rfl)) ?_)
                    refine tl_nil ?_
                    refine tx_then ?_
                    refine tr_draw (sel _ [0, 2]) (fun w h => h.sel _ rfl (by decide)) rfl ?_
                    refine ta_float (i := 0) rfl (by kernel_rfl) (wants_none rfl) (yq_of (y_move (fe_t rfl))) ?_
                    refine ta_float (i := 1) rfl (by kernel_rfl) (wants_none rfl) (yq_of (y_move (fe_t rfl))) ?_
                    refine ta_float (i := 2) rfl (by kernel_rfl) (wants_none rfl) (yq_of (y_ldb 0 Try.isAgg39 (fe_t rfl) rfl rfl)) ?_
                    refine ta_float (i := 3) rfl (by kernel_rfl) (wants_none rfl) (yq_of (y_move (fe_t rfl))) ?_
                    refine ta_float (i := 4) rfl (by kernel_rfl) (wants_none rfl) (yq_of (y_add fe_c (fe_t rfl) (by omega))) ?_
                    refine ta_float (i := 5) rfl (by kernel_rfl) (wants_none rfl) (yq_of (y_indexI Try.underlying39 Try.sizeOf5 (fe_t rfl) (fe_t rfl) (rdl_out hr) (by rw [cB_len]; omega) (by decide) (by omega) (by omega) (Nat.mul_one _))) ?_
                    refine ta_float (i := 6) rfl (by kernel_rfl) (wants_none rfl) (yq_of (y_ld (v := .int .u8 (at_ l (12 + k))) Try.isAgg5 (fe_t rfl) (rdl_out hr) (by rw [show ((12 + (k : Int)).toNat : Nat) = 12 + k by omega]; exact getB (by omega)))) ?_
                    refine ta_float (i := 7) rfl (by kernel_rfl) (wants_none rfl) (yq_of (y_ldb 0 Try.isAgg39 (fe_t rfl) rfl rfl)) ?_
                    refine ta_float (i := 8) rfl (by kernel_rfl) (wants_none rfl) (yq_of (y_move (fe_t rfl))) ?_
                    refine ta_float (i := 9) rfl (by kernel_rfl) (wants_none rfl) (yq_of (y_add fe_c (fe_t rfl) (by omega))) ?_
                    refine ta_float (i := 10) rfl (by kernel_rfl) (wants_none rfl) (yq_of (y_indexI Try.underlying39 Try.sizeOf5 (fe_t rfl) (fe_t rfl) (rdl_out hr) (by rw [cB_len]; omega) (by decide) (by omega) (by omega) (Nat.mul_one _))) ?_
                    refine ta_float (i := 11) rfl (by kernel_rfl) (wants_none rfl) (yq_of (y_ld (v := .int .u8 (at_ l (16 + k))) Try.isAgg5 (fe_t rfl) (rdl_out hr) (by rw [show ((16 + (k : Int)).toNat : Nat) = 16 + k by omega]; exact getB (by omega)))) ?_
                    refine ta_float (i := 12) rfl (by kernel_rfl) (wants_none rfl) (yq_of (y_fieldAddr (td := 24) Try.underlying38 rfl rfl Try.sizeOf24 (o' := 0) rfl (fe_t rfl))) ?_
                    refine ta_float (i := 13) rfl (by kernel_rfl) (wants_none rfl) (yq_of (y_indexPO (o := 0) Try.underlying24 Try.sizeOf5 (fe_t rfl) (fe_t rfl) (by omega) (by omega))) ?_
                    refine ta_float (i := 15) rfl (by kernel_rfl) (wants_none rfl) (yq_of (y_fieldAddr (td := 24) Try.underlying38 rfl rfl Try.sizeOf24 (o' := 4) rfl (fe_t rfl))) ?_
                    refine ta_one (i := 14) rfl (by kernel_rfl) (wants_none rfl) (oj_storeP (q := 0 + (k : Int).toNat) 1 Try.sizeOf5 (fe_t rfl) (fe_t rfl) rfl rfl rfl (by simp [hk4]; try omega) (⟨fun w h => h.pick [0, 2] _ rfl (by decide), ?_⟩))
                    refine ta_float (i := 16) rfl (by kernel_rfl) (wants_none rfl) (yq_of (y_indexPO (o := 4) Try.underlying24 Try.sizeOf5 (fe_t rfl) (fe_t rfl) (by omega) (by omega))) ?_
                    refine ta_one (i := 17) rfl (by kernel_rfl) (wants_none rfl) (oj_storeP (q := 4 + (k : Int).toNat) 1 Try.sizeOf5 (fe_t rfl) (fe_t rfl) rfl rfl rfl (by simp [hk4]; try omega) (⟨fun w h => h.pick [0, 2] _ rfl (by decide), ?_⟩))
                    refine ta_done (by kernel_rfl) ?_
                    refine tx_in ?_
                    refine tx_then ?_
                    refine tr_as (r' := blk hb (hk4 l (k + 1))) 1 rfl (by rw [← hk4_set (by omega)]; rfl) ?_
                    refine tr_region ?_
                    refine tl_step rfl (oj_val (y_inc (fe_t rfl) fe_c (by omega)) ?_)
                    refine tl_step rfl (oj_val (y_move (fe_t rfl)) ?_)
                    refine tl_nil ?_
                    apply tx_back1 (k + 1)
                    · exact (cov_cons (by first | rfl | exact v_int (by omega) | exact v_bool (by simp [*])) (cov_nil))
                    · repeat (first | exact over_nil | refine over_put rfl ?_ | refine over_drop rfl ?_)
                    · exact fun w h => h.pick [0, 1, 2] _ rfl (by decide)
                    · exact ⟨by omega, by omega⟩
                · try (exfalso; omega)
                  all_goals
                    refine tr_exit ?_
                    refine tx_then_exit ?_
                    refine tx_then_exit ?_
                    refine tx_in_exit ?_
                    refine tx_then ?_
                    refine tr_cut1 [9, 72, 73, 74, 75, 76, 77, 78, 79, 80, 81, 82, 83, 84, 85] (fun (p9 : Bool) => [(9, .bool p9)]) 0 (fun (p9 : Bool) => [(1, blk hb [.int .u8 (h0 l).s0, .int .u8 (h0 l).s1, .int .u8 (h0 l).s2, .int .u8 (h0 l).s3, .int .u8 (h0 l).d0, .int .u8 (h0 l).d1, .int .u8 (h0 l).d2, .int .u8 (h0 l).d3, (.int .i64 ((h0 l).pr)), (.int .i64 ((h0 l).sp)), (.int .i64 ((h0 l).dp)), (.int .i64 ((h0 l).ln)), (.int .i64 ((h0 l).mr))])]) (fun (p9 : Bool) => (p9 = true → ((at_ l 9 = 6 ∨ at_ l 9 = 17) ∧ two l 6 % 8192 = 0)) ∧ (p9 = false → ¬ ((at_ l 9 = 6 ∨ at_ l 9 = 17) ∧ two l 6 % 8192 = 0))) ?_ ?_
                    · obtain rfl : k = 4 := by omega
                      refine tr_as (r' := blk hb [.int .u8 (h0 l).s0, .int .u8 (h0 l).s1, .int .u8 (h0 l).s2, .int .u8 (h0 l).s3, .int .u8 (h0 l).d0, .int .u8 (h0 l).d1, .int .u8 (h0 l).d2, .int .u8 (h0 l).d3, (.int .i64 ((h0 l).pr)), (.int .i64 ((h0 l).sp)), (.int .i64 ((h0 l).dp)), (.int .i64 ((h0 l).ln)), (.int .i64 ((h0 l).mr))]) 1 rfl rfl ?_
                      refine tr_region ?_
                      refine tl_step rfl (oj_val (y_fieldAddr (td := 3) Try.underlying38 rfl rfl Try.sizeOf3 (o' := 8) rfl (fe_t rfl)) ?_)
                      refine tl_step rfl (oj_val (y_ldb 1 Try.isAgg3 (fe_t rfl) rfl rfl) ?_)
                      refine tl_step rfl (oj_val (y_eq (fe_t rfl) fe_c) ?_)
                      refine tl_step rfl (oj_val (y_move (fe_t rfl)) ?_)
                      refine tl_splitp (d := 75) rfl (fun hq31 => ?_) (fun hq32 => ?_)
                      · try (exfalso; omega)
                        all_goals
                          refine tl_skip rfl rfl rfl rfl ?_
                          refine tl_skip rfl rfl rfl rfl ?_
                          refine tl_skip rfl rfl rfl rfl ?_
                          refine tl_step rfl (oj_val (y_pickt (fe_t rfl) fe_c) ?_)
                          refine tl_step rfl (oj_val (y_move (fe_t rfl)) ?_)
                          refine tl_want rfl rfl rfl (oj_val (y_move (fe_t rfl)) ?_)
                          refine tl_want rfl rfl rfl (oj_callF Try.call59 (fe_t rfl) (fel_cons (fe_c (v := (.int .i64 (((6 : Nat) : Int))))) fel_nil) (fun w' hS => twoR hr hn hz hm (hS.pick [0, 1, 2] [_, _, _] rfl (by decide)) (6) (by omega)) (fun _ _ => ?_))
                          refine tl_want rfl rfl rfl (oj_val (y_andq (c := two l 6 % 8192) (fe_t rfl) fe_c (and13 _)) ?_)
                          refine tl_want rfl rfl rfl (oj_val (y_eq (fe_t rfl) fe_c) ?_)
                          refine tl_step rfl (oj_val (y_pickt (fe_t rfl) (fe_t rfl)) ?_)
                          refine tl_step rfl (oj_val (y_assign (fe_t rfl)) ?_)
                          refine tl_nil ?_
                          apply tx_back1 (_)
                          · exact (cov_cons (by first | rfl | exact v_int (by omega) | exact v_bool (by simp [*])) (cov_nil))
                          · repeat (first | exact over_nil | refine over_put rfl ?_ | refine over_drop rfl ?_)
                          · exact fun w h => h.pick [0, 1, 2] _ rfl (by decide)
                          · refine ⟨fun h9 => ?_, fun h9 => ?_⟩ <;> first | omega | (simp only [decide_eq_true_eq, decide_eq_false_iff_not] at h9; omega) | exact absurd h9 (by decide)
                      · try (exfalso; omega)
                        all_goals
                          refine tl_want rfl rfl rfl (oj_val (y_fieldAddr (td := 3) Try.underlying38 rfl rfl Try.sizeOf3 (o' := 8) rfl (fe_t rfl)) ?_)
                          refine tl_want rfl rfl rfl (oj_val (y_ldb 1 Try.isAgg3 (fe_t rfl) rfl rfl) ?_)
                          refine tl_want rfl rfl rfl (oj_val (y_eq (fe_t rfl) fe_c) ?_)
                          refine tl_step rfl (oj_val (y_pickf (fe_t rfl) (fe_t rfl)) ?_)
                          refine tl_step rfl (oj_val (y_move (fe_t rfl)) ?_)
                          refine tl_splitp (d := 80) rfl (fun hq33 => ?_) (fun hq34 => ?_)
                          · try (exfalso; omega)
                            all_goals
                              refine tl_want rfl rfl rfl (oj_val (y_move (fe_t rfl)) ?_)
                              refine tl_want rfl rfl rfl (oj_callF Try.call59 (fe_t rfl) (fel_cons (fe_c (v := (.int .i64 (((6 : Nat) : Int))))) fel_nil) (fun w' hS => twoR hr hn hz hm (hS.pick [0, 1, 2] [_, _, _] rfl (by decide)) (6) (by omega)) (fun _ _ => ?_))
                              refine tl_want rfl rfl rfl (oj_val (y_andq (c := two l 6 % 8192) (fe_t rfl) fe_c (and13 _)) ?_)
                              refine tl_want rfl rfl rfl (oj_val (y_eq (fe_t rfl) fe_c) ?_)
                              refine tl_step rfl (oj_val (y_pickt (fe_t rfl) (fe_t rfl)) ?_)
                              refine tl_step rfl (oj_val (y_assign (fe_t rfl)) ?_)
                              refine tl_nil ?_
                              apply tx_back1 (_)
                              · exact (cov_cons (by first | rfl | exact v_int (by omega) | exact v_bool (by simp [*])) (cov_nil))
                              · repeat (first | exact over_nil | refine over_put rfl ?_ | refine over_drop rfl ?_)
                              · exact fun w h => h.pick [0, 1, 2] _ rfl (by decide)
                              · refine ⟨fun h9 => ?_, fun h9 => ?_⟩ <;> first | omega | (simp only [decide_eq_true_eq, decide_eq_false_iff_not] at h9; omega) | exact absurd h9 (by decide)
                          · try (exfalso; omega)
                            all_goals
                              refine tl_skip rfl rfl rfl rfl ?_
                              refine tl_skip rfl rfl rfl rfl ?_
                              refine tl_skip rfl rfl rfl rfl ?_
                              refine tl_skip rfl rfl rfl rfl ?_
                              refine tl_step rfl (oj_val (y_pickf (fe_t rfl) fe_c) ?_)
                              refine tl_step rfl (oj_val (y_assign (fe_t rfl)) ?_)
                              refine tl_nil ?_
                              apply tx_back1 (_)
                              · exact (cov_cons (by first | rfl | exact v_int (by omega) | exact v_bool (by simp [*])) (cov_nil))
                              · repeat (first | exact over_nil | refine over_put rfl ?_ | refine over_drop rfl ?_)
                              · exact fun w h => h.pick [0, 1, 2] _ rfl (by decide)
                              · refine ⟨fun h9 => ?_, fun h9 => ?_⟩ <;> first | omega | (simp only [decide_eq_true_eq, decide_eq_false_iff_not] at h9; omega) | exact absurd h9 (by decide)
                    · intro p9 hp
                      obtain ⟨hpt9, hpf9⟩ := hp
                      refine tr_seq ?_
                      refine tr_block ?_
                      refine tr_seq ?_
                      refine tr_region ?_
                      refine tl_step rfl (oj_val (y_ldb 0 Try.isAgg39 (fe_t rfl) rfl rfl) ?_)
                      refine tl_step rfl (oj_val (y_len Try.underlying39 (fe_t rfl)) ?_)
                      refine tl_step rfl (oj_val (y_move (fe_t rfl)) ?_)
                      refine tl_step rfl (oj_val (y_lss (fe_t rfl) (fe_t rfl)) ?_)
                      refine tl_step rfl (oj_val (y_move (fe_t rfl)) ?_)
                      refine tl_splitp (d := 91) rfl (fun hq35 => ?_) (fun hq36 => ?_)
                      · try (exfalso; omega)
                        all_goals
                          refine tl_skip rfl rfl rfl rfl ?_
                          refine tl_skip rfl rfl rfl rfl ?_
                          refine tl_skip rfl rfl rfl rfl ?_
                          refine tl_skip rfl rfl rfl rfl ?_
                          refine tl_skip rfl rfl rfl rfl ?_
                          refine tl_step rfl (oj_val (y_pickt (fe_t rfl) fe_c) ?_)
                          refine tl_step rfl (oj_val (y_assign (fe_t rfl)) ?_)
                          refine tl_nil ?_
                          refine tx_then ?_
                          refine tr_condt (fe_t rfl) ?_
                          refine tr_seq ?_
                          refine tr_region ?_
                          refine tl_step rfl (oj_val (y_move (fe_t rfl)) ?_)
                          refine tl_step rfl (oj_callv Try.call58 (fe_t rfl) (fel_cons fe_c fel_nil) (fun w' hS => noE _ w') ?_)
                          refine tl_step rfl (oj_val (y_extract (fe_t rfl) rfl) ?_)
                          refine tl_step rfl (oj_val (y_extract (fe_t rfl) rfl) ?_)
                          refine tl_step rfl (oj_storeW 2 Try.sizeOf38 (fe_t rfl) (fe_t rfl) rfl rfl rfl rfl rfl (?_))
                          refine tl_step rfl (oj_val (y_assign (fe_t rfl)) ?_)
                          refine tl_nil ?_
                          refine tx_then ?_
                          refine tr_ret ?_
                          refine tx_in_ret ?_
                          refine tx_then_ret ?_
                          refine tx_ret (res2 Try.results18 (rok_b 2 Try.isAgg38 Try.sizeOf38 rfl rfl rfl) (rok_t rfl)) (fun w' hS => ?_)
                          have hw : rd l = (zH, 8) := by
                            first
                            | exact rd_c (by omega) (by omega) (by omega)
                            | (exfalso; simp_all; done)
                          exact ⟨by rw [hw]; rfl, hS.pick [] _ rfl (by decide)⟩
                      · try (exfalso; omega)
                        all_goals
                          refine tl_want rfl rfl rfl (oj_val (y_ldb 0 Try.isAgg39 (fe_t rfl) rfl rfl) ?_)
                          refine tl_want rfl rfl rfl (oj_val (y_len Try.underlying39 (fe_t rfl)) ?_)
                          refine tl_want rfl rfl rfl (oj_val (y_fieldAddr (td := 3) Try.underlying38 rfl rfl Try.sizeOf3 (o' := 11) rfl (fe_t rfl)) ?_)
                          refine tl_want rfl rfl rfl (oj_val (y_ldb 1 Try.isAgg3 (fe_t rfl) rfl rfl) ?_)
                          refine tl_want rfl rfl rfl (oj_val (y_lss (fe_t rfl) (fe_t rfl)) ?_)
                          refine tl_step rfl (oj_val (y_pickf (fe_t rfl) (fe_t rfl)) ?_)
                          refine tl_step rfl (oj_val (y_assign (fe_t rfl)) ?_)
                          refine tl_nil ?_
                          refine tx_then ?_
                          refine tr_condp (fe_t rfl) (fun hq37 => ?_) (fun hq38 => ?_)
                          · try (exfalso; omega)
                            all_goals
                              refine tr_seq ?_
                              refine tr_region ?_
                              refine tl_step rfl (oj_val (y_move (fe_t rfl)) ?_)
                              refine tl_step rfl (oj_callv Try.call58 (fe_t rfl) (fel_cons fe_c fel_nil) (fun w' hS => noE _ w') ?_)
                              refine tl_step rfl (oj_val (y_extract (fe_t rfl) rfl) ?_)
                              refine tl_step rfl (oj_val (y_extract (fe_t rfl) rfl) ?_)
                              refine tl_step rfl (oj_storeW 2 Try.sizeOf38 (fe_t rfl) (fe_t rfl) rfl rfl rfl rfl rfl (?_))
                              refine tl_step rfl (oj_val (y_assign (fe_t rfl)) ?_)
                              refine tl_nil ?_
                              refine tx_then ?_
                              refine tr_ret ?_
                              refine tx_in_ret ?_
                              refine tx_then_ret ?_
                              refine tx_ret (res2 Try.results18 (rok_b 2 Try.isAgg38 Try.sizeOf38 rfl rfl rfl) (rok_t rfl)) (fun w' hS => ?_)
                              have hw : rd l = (zH, 8) := by
                                first
                                | exact rd_c (by omega) (by omega) (by omega)
                                | (exfalso; simp_all; done)
                              exact ⟨by rw [hw]; rfl, hS.pick [] _ rfl (by decide)⟩
                          · try (exfalso; omega)
                            all_goals
                              refine tr_seq ?_
                              refine tr_region ?_
                              refine tl_step rfl (oj_val (y_fieldAddr (td := 3) Try.underlying38 rfl rfl Try.sizeOf3 (o' := 11) rfl (fe_t rfl)) ?_)
                              refine tl_step rfl (oj_val (y_ldb 1 Try.isAgg3 (fe_t rfl) rfl rfl) ?_)
                              refine tl_step rfl (oj_val (y_move (fe_t rfl)) ?_)
                              refine tl_step rfl (oj_val (y_lss (fe_t rfl) (fe_t rfl)) ?_)
                              refine tl_step rfl (oj_val (y_assign (fe_t rfl)) ?_)
                              refine tl_nil ?_
                              refine tx_then ?_
                              refine tr_condp (fe_t rfl) (fun hq39 => ?_) (fun hq40 => ?_)
                              · try (exfalso; omega)
                                all_goals
                                  refine tr_seq ?_
                                  refine tr_region ?_
                                  refine tl_step rfl (oj_val (y_move (fe_t rfl)) ?_)
                                  refine tl_step rfl (oj_callv Try.call58 (fe_t rfl) (fel_cons fe_c fel_nil) (fun w' hS => noE _ w') ?_)
                                  refine tl_step rfl (oj_val (y_extract (fe_t rfl) rfl) ?_)
                                  refine tl_step rfl (oj_val (y_extract (fe_t rfl) rfl) ?_)
                                  refine tl_step rfl (oj_storeW 2 Try.sizeOf38 (fe_t rfl) (fe_t rfl) rfl rfl rfl rfl rfl (?_))
                                  refine tl_step rfl (oj_val (y_assign (fe_t rfl)) ?_)
                                  refine tl_nil ?_
                                  refine tx_then ?_
                                  refine tr_ret ?_
                                  refine tx_in_ret ?_
                                  refine tx_then_ret ?_
                                  refine tx_ret (res2 Try.results18 (rok_b 2 Try.isAgg38 Try.sizeOf38 rfl rfl rfl) (rok_t rfl)) (fun w' hS => ?_)
                                  have hw : rd l = (zH, 1) := by
                                    first
                                    | exact rd_d (by omega) (by omega) (by omega) (by omega)
                                    | (exfalso; simp_all; done)
                                  exact ⟨by rw [hw]; rfl, hS.pick [] _ rfl (by decide)⟩
                              · try (exfalso; omega)
                                all_goals
                                  refine tr_seq ?_
                                  refine tr_region ?_
                                  refine tl_step rfl (oj_val (y_ldb 0 Try.isAgg39 (fe_t rfl) rfl rfl) ?_)
                                  refine tl_step rfl (oj_val (y_move (fe_t rfl)) ?_)
                                  refine tl_step rfl (oj_val (y_cutH Try.underlying39 Try.sizeOf5 (fe_t rfl) (fe_t rfl) (by omega)) ?_)
                                  refine tl_step rfl (oj_callv Try.call60 fe_f (fel_cons (fe_t rfl) fel_nil) (fun w' hS => ofE _ _ _ (l.take (hl l)) w' ((rdl_pre (rdl_out hr) (cB_cut l (hl l))) w' hS) rfl (by rw [List.length_take]; omega) (fun z hz9 => hz z (List.mem_of_mem_take hz9)) (by omega)) ?_)
                                  refine tl_step rfl (oj_val (y_neq (fe_t rfl) fe_c) ?_)
                                  refine tl_step rfl (oj_val (y_assign (fe_t rfl)) ?_)
                                  refine tl_nil ?_
                                  refine tx_then ?_
                                  refine tr_condp (fe_t rfl) (fun hq41 => ?_) (fun hq42 => ?_)
                                  · try (exfalso; omega)
                                    all_goals
                                      refine tr_seq ?_
                                      refine tr_region ?_
                                      refine tl_step rfl (oj_val (y_move (fe_t rfl)) ?_)
                                      refine tl_step rfl (oj_callv Try.call58 (fe_t rfl) (fel_cons fe_c fel_nil) (fun w' hS => noE _ w') ?_)
                                      refine tl_step rfl (oj_val (y_extract (fe_t rfl) rfl) ?_)
                                      refine tl_step rfl (oj_val (y_extract (fe_t rfl) rfl) ?_)
                                      refine tl_step rfl (oj_storeW 2 Try.sizeOf38 (fe_t rfl) (fe_t rfl) rfl rfl rfl rfl rfl (?_))
                                      refine tl_step rfl (oj_val (y_assign (fe_t rfl)) ?_)
                                      refine tl_nil ?_
                                      refine tx_then ?_
                                      refine tr_ret ?_
                                      refine tx_in_ret ?_
                                      refine tx_then_ret ?_
                                      refine tx_ret (res2 Try.results18 (rok_b 2 Try.isAgg38 Try.sizeOf38 rfl rfl rfl) (rok_t rfl)) (fun w' hS => ?_)
                                      have hw : rd l = (zH, 7) := by
                                        first
                                        | exact rd_e (by omega) (by omega) (by omega) (by omega) (by omega)
                                        | (exfalso; simp_all; done)
                                      exact ⟨by rw [hw]; rfl, hS.pick [] _ rfl (by decide)⟩
                                  · try (exfalso; omega)
                                    all_goals
                                      refine tr_seq ?_
                                      refine tr_region ?_
                                      refine tl_step rfl (oj_val (y_move (fe_t rfl)) ?_)
                                      refine tl_step rfl (oj_val (y_move (fe_t rfl)) ?_)
                                      refine tl_split (d := 123) rfl (fun hq43 => ?_) (fun hq44 => ?_)
                                      · try (exfalso; omega)
                                        all_goals
                                          refine tl_want rfl rfl rfl (oj_val (y_fieldAddr (td := 3) Try.underlying38 rfl rfl Try.sizeOf3 (o' := 11) rfl (fe_t rfl)) ?_)
                                          refine tl_want rfl rfl rfl (oj_val (y_ldb 1 Try.isAgg3 (fe_t rfl) rfl rfl) ?_)
                                          refine tl_want rfl rfl rfl (oj_val (y_move (fe_t rfl)) ?_)
                                          refine tl_want rfl rfl rfl (oj_val (y_add (fe_t rfl) fe_c (by omega)) ?_)
                                          refine tl_want rfl rfl rfl (oj_val (y_lss (fe_t rfl) (fe_t rfl)) ?_)
                                          refine tl_step rfl (oj_val (y_pickt (fe_t rfl) (fe_t rfl)) ?_)
                                          refine tl_step rfl (oj_val (y_assign (fe_t rfl)) ?_)
                                          refine tl_nil ?_
                                          refine tx_then ?_
                                          refine tr_condp (fe_t rfl) (fun hq45 => ?_) (fun hq46 => ?_)
                                          · try (exfalso; omega)
                                            all_goals
                                              have hP : ports l := hpt9 (by simp_all)
                                              refine tr_seq ?_
                                              refine tr_region ?_
                                              refine tl_step rfl (oj_val (y_move (fe_t rfl)) ?_)
                                              refine tl_step rfl (oj_callv Try.call58 (fe_t rfl) (fel_cons fe_c fel_nil) (fun w' hS => noE _ w') ?_)
                                              refine tl_step rfl (oj_val (y_extract (fe_t rfl) rfl) ?_)
                                              refine tl_step rfl (oj_val (y_extract (fe_t rfl) rfl) ?_)
                                              refine tl_step rfl (oj_storeW 2 Try.sizeOf38 (fe_t rfl) (fe_t rfl) rfl rfl rfl rfl rfl (?_))
                                              refine tl_step rfl (oj_val (y_assign (fe_t rfl)) ?_)
                                              refine tl_nil ?_
                                              refine tx_then ?_
                                              refine tr_ret ?_
                                              refine tx_in_ret ?_
                                              refine tx_then_ret ?_
                                              refine tx_ret (res2 Try.results18 (rok_b 2 Try.isAgg38 Try.sizeOf38 rfl rfl rfl) (rok_t rfl)) (fun w' hS => ?_)
                                              have hw : rd l = (zH, 8) := by
                                                first
                                                | exact rd_g (by omega) (by omega) (by omega) (by omega) (by omega) hP (by omega)
                                                | (exfalso; simp_all; done)
                                              exact ⟨by rw [hw]; rfl, hS.pick [] _ rfl (by decide)⟩
                                          · try (exfalso; omega)
                                            all_goals
                                              refine tr_skip ?_
                                              refine tx_in ?_
                                              refine tx_then ?_
                                              refine tr_seq ?_
                                              refine tr_seq ?_
                                              refine tr_region ?_
                                              refine tl_step rfl (oj_val (y_move (fe_t rfl)) ?_)
                                              refine tl_nil ?_
                                              refine tx_then ?_
                                              refine tr_cond (fe_t rfl) (fun hq47 => ?_) (fun hq48 => ?_)
                                              · try (exfalso; omega)
                                                all_goals
                                                  have hP : ports l := hpt9 hq47
                                                  refine tr_region ?_
                                                  refine tl_step rfl (oj_val (y_move (fe_t rfl)) ?_)
                                                  refine tl_step rfl (oj_val (y_move (fe_t rfl)) ?_)
                                                  refine tl_step rfl (oj_callF Try.call59 (fe_t rfl) (fel_cons (fe_t rfl) fel_nil) (fun w' hS => twoR hr hn hz hm (hS.pick [0, 1, 2] [_, _, _] rfl (by decide)) (hl l) (by omega)) (fun _ _ => ?_))
                                                  refine tl_step rfl (oj_val (y_move (fe_t rfl)) ?_)
                                                  refine tl_step rfl (oj_val (y_move (fe_t rfl)) ?_)
                                                  refine tl_step rfl (oj_val (y_add (fe_t rfl) fe_c (by omega)) ?_)
                                                  refine tl_step rfl (oj_callF Try.call59 (fe_t rfl) (fel_cons (fe_i (by omega) rfl) fel_nil) (fun w' hS => twoR hr hn hz hm (hS.pick [0, 1, 2] [_, _, _] rfl (by decide)) (hl l + 2) (by omega)) (fun _ _ => ?_))
                                                  refine tl_step rfl (oj_val (y_fieldAddr (td := 3) Try.underlying38 rfl rfl Try.sizeOf3 (o' := 9) rfl (fe_t rfl)) ?_)
                                                  refine tl_step rfl (oj_store1 1 Try.sizeOf3 (fe_t rfl) (fe_t rfl) rfl rfl rfl rfl (?_))
                                                  refine tl_step rfl (oj_val (y_fieldAddr (td := 3) Try.underlying38 rfl rfl Try.sizeOf3 (o' := 10) rfl (fe_t rfl)) ?_)
                                                  refine tl_step rfl (oj_store1 1 Try.sizeOf3 (fe_t rfl) (fe_t rfl) rfl rfl rfl rfl (?_))
                                                  refine tl_nil ?_
                                                  refine tx_then ?_
                                                  refine tr_seq ?_
                                                  refine tr_region ?_
                                                  refine tl_step rfl (oj_val (y_ldbA 1 Try.isAgg38 Try.sizeOf38 (fe_t rfl) rfl rfl rfl) ?_)
                                                  refine tl_step rfl (oj_storeW 2 Try.sizeOf38 (fe_t rfl) (fe_t rfl) rfl rfl rfl rfl rfl (?_))
                                                  refine tl_step rfl (oj_val (y_assign fe_c) ?_)
                                                  refine tl_nil ?_
                                                  refine tx_then ?_
                                                  refine tr_ret ?_
                                                  refine tx_ret (res2 Try.results18 (rok_b 2 Try.isAgg38 Try.sizeOf38 rfl rfl rfl) (rok_t rfl)) (fun w' hS => ?_)
                                                  have hw : rd l = ({ h0 l with sp := two l (hl l), dp := two l (hl l + 2) }, 0) := by
                                                    first
                                                    | exact rd_h (by omega) (by omega) (by omega) (by omega) (by omega) hP (by omega)
                                                    | (exfalso; simp_all; done)
                                                  exact ⟨by rw [hw]; rfl, hS.pick [] _ rfl (by decide)⟩
                                              · try (exfalso; omega)
                                                all_goals
                                                  have hP : ¬ ports l := hpf9 hq48
                                                  refine tr_skip ?_
                                                  refine tx_then ?_
                                                  refine tr_seq ?_
                                                  refine tr_region ?_
                                                  refine tl_step rfl (oj_val (y_ldbA 1 Try.isAgg38 Try.sizeOf38 (fe_t rfl) rfl rfl rfl) ?_)
                                                  refine tl_step rfl (oj_storeW 2 Try.sizeOf38 (fe_t rfl) (fe_t rfl) rfl rfl rfl rfl rfl (?_))
                                                  refine tl_step rfl (oj_val (y_assign fe_c) ?_)
                                                  refine tl_nil ?_
                                                  refine tx_then ?_
                                                  refine tr_ret ?_
                                                  refine tx_ret (res2 Try.results18 (rok_b 2 Try.isAgg38 Try.sizeOf38 rfl rfl rfl) (rok_t rfl)) (fun w' hS => ?_)
                                                  have hw : rd l = (h0 l, 0) := by
                                                    first
                                                    | exact rd_f (by omega) (by omega) (by omega) (by omega) (by omega) hP
                                                    | (exfalso; simp_all; done)
                                                  exact ⟨by rw [hw]; rfl, hS.pick [] _ rfl (by decide)⟩
                                      · try (exfalso; omega)
                                        all_goals
                                          refine tl_skip rfl rfl rfl rfl ?_
                                          refine tl_skip rfl rfl rfl rfl ?_
                                          refine tl_skip rfl rfl rfl rfl ?_
                                          refine tl_skip rfl rfl rfl rfl ?_
                                          refine tl_skip rfl rfl rfl rfl ?_
                                          refine tl_step rfl (oj_val (y_pickf (fe_t rfl) fe_c) ?_)
                                          refine tl_step rfl (oj_val (y_assign (fe_t rfl)) ?_)
                                          refine tl_nil ?_
                                          refine tx_then ?_
                                          refine tr_condf (fe_t rfl) ?_
                                          refine tr_skip ?_
                                          refine tx_in ?_
                                          refine tx_then ?_
                                          refine tr_seq ?_
                                          refine tr_seq ?_
                                          refine tr_region ?_
                                          refine tl_step rfl (oj_val (y_move (fe_t rfl)) ?_)
                                          refine tl_nil ?_
                                          refine tx_then ?_
                                          refine tr_cond (fe_t rfl) (fun hq49 => ?_) (fun hq50 => ?_)
                                          · exact Bool.noConfusion ((by assumption : p9 = false).symm.trans hq49)
                                          · try (exfalso; omega)
                                            all_goals
                                              have hP : ¬ ports l := hpf9 hq50
                                              refine tr_skip ?_
                                              refine tx_then ?_
                                              refine tr_seq ?_
                                              refine tr_region ?_
                                              refine tl_step rfl (oj_val (y_ldbA 1 Try.isAgg38 Try.sizeOf38 (fe_t rfl) rfl rfl rfl) ?_)
                                              refine tl_step rfl (oj_storeW 2 Try.sizeOf38 (fe_t rfl) (fe_t rfl) rfl rfl rfl rfl rfl (?_))
                                              refine tl_step rfl (oj_val (y_assign fe_c) ?_)
                                              refine tl_nil ?_
                                              refine tx_then ?_
                                              refine tr_ret ?_
                                              refine tx_ret (res2 Try.results18 (rok_b 2 Try.isAgg38 Try.sizeOf38 rfl rfl rfl) (rok_t rfl)) (fun w' hS => ?_)
                                              have hw : rd l = (h0 l, 0) := by
                                                first
                                                | exact rd_f (by omega) (by omega) (by omega) (by omega) (by omega) hP
                                                | (exfalso; simp_all; done)
                                              exact ⟨by rw [hw]; rfl, hS.pick [] _ rfl (by decide)⟩

end Go.Proofs.Ytpknjfeiiaopgaa.Head
