/- Walk: head.Write. -/
import Derived.Test.YtpknjfeiiaopgaaHdW
import Derived.Test.YtpknjfeiiaopgaaHdC
import Derived.Test.YtpknjfeiiaopgaaFlO
namespace Go.Proofs.Ytpknjfeiiaopgaa.Head
open Go.RowKit Go.Proofs.Ytpknjfeiiaopgaa.E

set_option maxRecDepth 100000 in
set_option maxHeartbeats 4000000 in
theorem write_p (h : Hd) (ho : h.ok) (hw0 : wr h = 0) (hp :  (h.pr = 6 ∨ h.pr = 17)) {m : Nat} (hln : h.ln = (((m + 4 + 20) : Nat) : Int)) (w : World) :
    Calls Try.prog 16 #[.agg #[.int .u8 h.s0, .int .u8 h.s1, .int .u8 h.s2, .int .u8 h.s3, .int .u8 h.d0, .int .u8 h.d1, .int .u8 h.d2, .int .u8 h.d3, (.int .i64 h.pr), (.int .i64 h.sp), (.int .i64 h.dp), (.int .i64 h.ln), (.int .i64 h.mr)]] w fun e w' => ∃ q : Vs, (q.n = (wb h).length ∧ q.xs = cB (wb h)) ∧ e = .returned (.tuple #[.slice q.A q.n q.c, (.int .i64 0)]) ∧ St w w' [vec 5 1 (.slice q.A q.n q.c) q.n q.xs] := by
  have hwb := wb_p hp hln
  obtain ⟨hf1, hf2, hf3⟩ := wr_fine hw0
  have hck := ck_bd h
  refine calls_tr Try.func16 Try.ntmps16 rfl rfl (St.refl _) ?_
  refine tr_seq ?_
  refine tr_region ?_
  refine tl_step rfl (oj_box (fe_t rfl) (fun hb => ?_))
  refine tl_step rfl (oj_val (y_assign fe_c) ?_)
  refine tl_step rfl (oj_val (y_assign fe_c) ?_)
  refine tl_nil ?_
  refine tx_then ?_
  refine tr_seq ?_
  refine tr_seq ?_
  refine tr_region ?_
  refine tl_step rfl (oj_val (y_ldbA 0 Try.isAgg38 Try.sizeOf38 (fe_t rfl) rfl rfl rfl) ?_)
  refine tl_step rfl (oj_callv Try.call20 fe_f (fel_cons (fe_t rfl) fel_nil) (fun w' hS => wrongE h w') ?_)
  refine tl_step rfl (oj_val (y_assign (fe_t rfl)) ?_)
  refine tl_nil ?_
  refine tx_then ?_
  refine tr_seq ?_
  refine tr_region ?_
  refine tl_step rfl (oj_val (y_move (fe_t rfl)) ?_)
  refine tl_step rfl (oj_val (y_neq (fe_t rfl) fe_c) ?_)
  refine tl_nil ?_
  refine tx_then ?_
  refine tr_condp (fe_t rfl) (fun hq1 => ?_) (fun hq2 => ?_)
  · exact absurd hw0 hq1
  · try (exfalso; omega)
    all_goals
      refine tr_skip ?_
      refine tx_then ?_
      refine tr_seq ?_
      refine tr_region ?_
      refine tl_step rfl (oj_val (y_fieldAddr (td := 3) Try.underlying38 rfl rfl Try.sizeOf3 (o' := 11) rfl (fe_t rfl)) ?_)
      refine tl_step rfl (oj_val (y_ldb 0 Try.isAgg3 (fe_t rfl) rfl rfl) ?_)
      refine tl_step rfl (oj_make (n := (m + 4 + 20)) (z := .int .u8 0) (bytes := 1) Try.underlying39 (by kernel_rfl) (fe_i hln rfl) (fe_i hln rfl) rfl ⟨by omega, by decide⟩ (fun g1 => ?_))
      refine tl_step rfl (oj_val (y_assign (fe_t rfl)) ?_)
      refine tl_nil ?_
      refine tx_then ?_
      refine tr_seq ?_
      refine tr_as (r' := vec 5 1 (.slice (some ⟨g1, 0, none⟩) (m + 4 + 20) (m + 4 + 20)) (m + 4 + 20) (cB (List.replicate (m + 4 + 20) 0))) 0 rfl (by first | rfl | (rw [rep_cB _]) | (exact congrArg _ (rep_cB _))) ?_
      refine tr_region ?_
      refine tl_step rfl (oj_val (y_move (fe_t rfl)) ?_)
      refine tl_step rfl (oj_val (y_move (fe_t rfl)) ?_)
      refine tl_step rfl (oj_val (y_fieldAddr (td := 3) Try.underlying38 rfl rfl Try.sizeOf3 (o' := 12) rfl (fe_t rfl)) ?_)
      refine tl_step rfl (oj_val (y_ldb 1 Try.isAgg3 (fe_t rfl) rfl rfl) ?_)
      refine tl_step rfl (oj_val (y_shlq (c := 4 * h.mr) (fe_t rfl) fe_c (by decide) (by show IntKind.i64.wrap (h.mr * 4) = 4 * h.mr; rw [IntWalk.i64_in _ (by omega)]; omega)) ?_)
      refine tl_step rfl (oj_val (y_convq (c := 4 * h.mr) Try.underlying3 Try.underlying5 (fe_t rfl) (IntWalk.u8_in _ (by omega))) ?_)
      refine tl_step rfl (oj_val (y_indexI (m := 0) Try.underlying39 Try.sizeOf5 (fe_t rfl) fe_c (rdl_vec 0 rfl) (by first | (rw [cB_len, ov_len (by omega), Nat.mul_one]; done) | (simp [cB]; done) | (simp [cB, hdr]; done) | (simp [cB, hdr]; omega)) (by decide) (by decide) (by omega) rfl) ?_)
      refine tl_step rfl (oj_storeE1 (i := 0) Try.sizeOf5 (fe_t rfl) fe_c rfl rfl rfl (by omega) (?_))
      refine tl_step rfl (oj_val (y_indexI (m := 1) Try.underlying39 Try.sizeOf5 (fe_t rfl) fe_c (rdl_vec 0 rfl) (by first | (rw [cB_len, ov_len (by omega), Nat.mul_one]; done) | (simp [cB]; done) | (simp [cB, hdr]; done) | (simp [cB, hdr]; omega)) (by decide) (by decide) (by omega) rfl) ?_)
      refine tl_step rfl (oj_storeE1 (i := 0) Try.sizeOf5 (fe_t rfl) (fe_t rfl) rfl rfl rfl (by omega) (?_))
      refine tl_nil ?_
      refine tx_then ?_
      refine tr_seq ?_
      refine tr_region ?_
      refine tl_step rfl (oj_val (y_move (fe_t rfl)) ?_)
      refine tl_step rfl (oj_val (y_move (fe_t rfl)) ?_)
      refine tl_step rfl (oj_val (y_fieldAddr (td := 3) Try.underlying38 rfl rfl Try.sizeOf3 (o' := 11) rfl (fe_t rfl)) ?_)
      refine tl_step rfl (oj_val (y_ldb 1 Try.isAgg3 (fe_t rfl) rfl rfl) ?_)
      refine tl_step rfl (oj_val (y_shrq (c := h.ln / 256) (fe_t rfl) fe_c (by decide) (div8 _ .i64 (by decide))) ?_)
      refine tl_step rfl (oj_val (y_convq (c := h.ln / 256) Try.underlying3 Try.underlying5 (fe_t rfl) (IntWalk.u8_in _ (by omega))) ?_)
      refine tl_step rfl (oj_val (y_fieldAddr (td := 3) Try.underlying38 rfl rfl Try.sizeOf3 (o' := 11) rfl (fe_t rfl)) ?_)
      refine tl_step rfl (oj_val (y_ldb 1 Try.isAgg3 (fe_t rfl) rfl rfl) ?_)
      refine tl_step rfl (oj_val (y_convq (c := h.ln % 256) Try.underlying3 Try.underlying5 (fe_t rfl) ((IntKind.wrap_u8' _))) ?_)
      refine tl_step rfl (oj_val (y_indexI (m := 2) Try.underlying39 Try.sizeOf5 (fe_t rfl) fe_c (rdl_vec 0 rfl) (by first | (rw [cB_len, ov_len (by omega), Nat.mul_one]; done) | (simp [cB]; done) | (simp [cB, hdr]; done) | (simp [cB, hdr]; omega)) (by decide) (by decide) (by omega) rfl) ?_)
      refine tl_step rfl (oj_storeE1 (i := 0) Try.sizeOf5 (fe_t rfl) (fe_t rfl) rfl rfl rfl (by omega) (?_))
      refine tl_step rfl (oj_val (y_indexI (m := 3) Try.underlying39 Try.sizeOf5 (fe_t rfl) fe_c (rdl_vec 0 rfl) (by first | (rw [cB_len, ov_len (by omega), Nat.mul_one]; done) | (simp [cB]; done) | (simp [cB, hdr]; done) | (simp [cB, hdr]; omega)) (by decide) (by decide) (by omega) rfl) ?_)
      refine tl_step rfl (oj_storeE1 (i := 0) Try.sizeOf5 (fe_t rfl) (fe_t rfl) rfl rfl rfl (by omega) (?_))
      refine tl_nil ?_
      refine tx_then ?_
      refine tr_seq ?_
      refine tr_region ?_
      refine tl_step rfl (oj_val (y_move (fe_t rfl)) ?_)
      refine tl_step rfl (oj_val (y_move (fe_t rfl)) ?_)
      refine tl_step rfl (oj_val (y_fieldAddr (td := 3) Try.underlying38 rfl rfl Try.sizeOf3 (o' := 8) rfl (fe_t rfl)) ?_)
      refine tl_step rfl (oj_val (y_ldb 1 Try.isAgg3 (fe_t rfl) rfl rfl) ?_)
      refine tl_step rfl (oj_val (y_convq (c := h.pr) Try.underlying3 Try.underlying5 (fe_t rfl) (IntWalk.u8_in _ (by omega))) ?_)
      refine tl_step rfl (oj_val (y_indexI (m := 8) Try.underlying39 Try.sizeOf5 (fe_t rfl) fe_c (rdl_vec 0 rfl) (by first | (rw [cB_len, ov_len (by omega), Nat.mul_one]; done) | (simp [cB]; done) | (simp [cB, hdr]; done) | (simp [cB, hdr]; omega)) (by decide) (by decide) (by omega) rfl) ?_)
      refine tl_step rfl (oj_storeE1 (i := 0) Try.sizeOf5 (fe_t rfl) fe_c rfl rfl rfl (by omega) (?_))
      refine tl_step rfl (oj_val (y_indexI (m := 9) Try.underlying39 Try.sizeOf5 (fe_t rfl) fe_c (rdl_vec 0 rfl) (by first | (rw [cB_len, ov_len (by omega), Nat.mul_one]; done) | (simp [cB]; done) | (simp [cB, hdr]; done) | (simp [cB, hdr]; omega)) (by decide) (by decide) (by omega) rfl) ?_)
      refine tl_step rfl (oj_storeE1 (i := 0) Try.sizeOf5 (fe_t rfl) (fe_t rfl) rfl rfl rfl (by omega) (?_))
      refine tl_nil ?_
      refine tx_then ?_
      refine tr_seq ?_
      refine tb_draw 7 (sel _ [0, 1]) (fun w h => h.sel _ rfl (by decide)) rfl ?_
      refine tb_float (i := 0) rfl (by kernel_rfl) rfl (wants_none rfl) (yq_of (y_fieldAddr (td := 24) Try.underlying38 rfl rfl Try.sizeOf24 (o' := 0) rfl (fe_t rfl))) ?_
      refine tb_float (i := 1) rfl (by kernel_rfl) rfl (wants_none rfl) (yq_of (y_sliceArr (len := 4) Try.underlying24 Try.sizeOf5 (fe_t rfl) (by decide))) ?_
      refine tb_float (i := 2) rfl (by kernel_rfl) rfl (wants_none rfl) (yq_of (y_fieldAddr (td := 24) Try.underlying38 rfl rfl Try.sizeOf24 (o' := 4) rfl (fe_t rfl))) ?_
      refine tb_float (i := 3) rfl (by kernel_rfl) rfl (wants_none rfl) (yq_of (y_sliceArr (len := 4) Try.underlying24 Try.sizeOf5 (fe_t rfl) (by decide))) ?_
      refine tb_one2 (i := 4) rfl (by kernel_rfl) (by kernel_rfl) (wants_none rfl) (oj_lit2s Try.underlying107 Try.sizeOf39 Try.zeroValue39 (fe_t rfl) (fe_t rfl) (fun g2 => ⟨fun w h => h.pick [1, 2] _ rfl (by decide), ?_⟩))
      refine tb_one2 (i := 5) rfl (by kernel_rfl) (by kernel_rfl) (wants_none rfl) (oj_call Try.call52 fe_f (fel_cons (fe_t rfl) fel_nil) (fun w' hS => concatE (a := [h.s0, h.s1, h.s2, h.s3]) (b := [h.d0, h.d1, h.d2, h.d3]) w' ((rdl_vec 0 rfl) w' hS) (rdl_blkAt (xs := []) (ys := cB [h.s0, h.s1, h.s2, h.s3]) (zs := [.int .u8 h.d0, .int .u8 h.d1, .int .u8 h.d2, .int .u8 h.d3] ++ [(.int .i64 h.pr), (.int .i64 h.sp), (.int .i64 h.dp), (.int .i64 h.ln), (.int .i64 h.mr)]) 2 rfl rfl rfl w' hS) (rdl_blkAt (xs := [.int .u8 h.s0, .int .u8 h.s1, .int .u8 h.s2, .int .u8 h.s3]) (ys := cB [h.d0, h.d1, h.d2, h.d3]) (zs := [(.int .i64 h.pr), (.int .i64 h.sp), (.int .i64 h.dp), (.int .i64 h.ln), (.int .i64 h.mr)]) 2 rfl rfl rfl w' hS) rfl rfl) (fun q hq => ⟨fun w h => h.pick [2, 3] _ rfl (by decide), ?_⟩))
      refine tb_float (i := 6) rfl (by kernel_rfl) rfl (wants_none rfl) (yq_of (y_assign (fe_t rfl))) ?_
      refine tb_done (by kernel_rfl) ?_
      refine tx_then ?_
      refine tr_seq ?_
      refine tr_seq ?_
      refine tr_as (r' := vec 5 1 (.slice (some ⟨g1, 0, none⟩) (m + 4 + 20) (m + 4 + 20)) (m + 4 + 20) (cB (ov h (m + 4) 0))) 2 rfl rfl ?_
      refine tr_region ?_
      refine tl_step rfl (oj_val (y_move (fe_t rfl)) ?_)
      refine tl_step rfl (oj_val (y_len Try.underlying39 (fe_t rfl)) ?_)
      refine tl_step rfl (oj_val (y_move fe_c) ?_)
      refine tl_nil ?_
      refine tx_then ?_
      refine tr_block ?_
      refine tr_loop1 [7, 8, 52, 53, 54, 55, 56, 57, 58, 59, 60, 61, 62] (fun (k : Nat) => [(52, .int .i64 (k : Int))]) 0 (fun (k : Nat) => [(2, vec 5 1 (.slice (some ⟨g1, 0, none⟩) (m + 4 + 20) (m + 4 + 20)) (m + 4 + 20) (cB (ov h (m + 4) k)))]) (fun (k : Nat) => k ≤ 8) (fun (k : Nat) => 8 - k) (0) (cov_cons (by first | rfl | exact v_int (by omega) | exact v_bool (by simp [*])) (cov_nil)) (fun w h => h) ?_ ?_
      · try dsimp only
        omega
      intro k hp
      have hk := hp
      refine tr_seq ?_
      refine tr_region ?_
      refine tl_step rfl (oj_val (y_lss (fe_t rfl) (fe_t rfl)) ?_)
      refine tl_nil ?_
      refine tx_then ?_
      refine tr_seq ?_
      refine tr_condp (fe_t rfl) (fun hq3 => ?_) (fun hq4 => ?_)
      · try (exfalso; omega)
        all_goals
          refine tr_skip ?_
          refine tx_then ?_
          refine tr_seq ?_
          refine tr_block ?_
          refine tr_seq ?_
          refine tr_region ?_
          refine tl_step rfl (oj_val (y_move (fe_t rfl)) ?_)
          refine tl_step rfl (oj_val (y_index Try.underlying39 Try.sizeOf5 (fe_t rfl) (fe_t rfl) (rdl_vec 0 rfl) (by rw [hq.2, hq.1]; rfl) (by decide) (by omega) (Nat.mul_one _)) ?_)
          refine tl_step rfl (oj_val (y_ld (v := .int .u8 ((sd h).getD k 0)) Try.isAgg5 (fe_t rfl) (rdl_vec 0 rfl) (by rw [hq.2]; exact sd_at (by omega))) ?_)
          refine tl_step rfl (oj_val (y_assign (fe_t rfl)) ?_)
          refine tl_step rfl (oj_val (y_assign (fe_t rfl)) ?_)
          refine tl_nil ?_
          refine tx_then ?_
          refine tr_region ?_
          refine tl_step rfl (oj_val (y_move (fe_t rfl)) ?_)
          refine tl_step rfl (oj_val (y_move (fe_t rfl)) ?_)
          refine tl_step rfl (oj_val (y_add fe_c (fe_t rfl) (by omega)) ?_)
          refine tl_step rfl (oj_val (y_move (fe_t rfl)) ?_)
          refine tl_step rfl (oj_val (y_indexI Try.underlying39 Try.sizeOf5 (fe_t rfl) (fe_t rfl) (rdl_vec 2 rfl) (by first | (rw [cB_len, ov_len (by omega), Nat.mul_one]; done) | (simp [cB]; done) | (simp [cB, hdr]; done) | (simp [cB, hdr]; omega)) (by decide) (by omega) (by omega) (Nat.mul_one _)) ?_)
          refine tl_step rfl (oj_storeE1 (i := 2) Try.sizeOf5 (fe_t rfl) (fe_t rfl) rfl rfl rfl (by omega) (?_))
          refine tl_nil ?_
          refine tx_in ?_
          refine tx_then ?_
          refine tr_as (r' := vec 5 1 (.slice (some ⟨g1, 0, none⟩) (m + 4 + 20) (m + 4 + 20)) (m + 4 + 20) (cB (ov h (m + 4) (k + 1)))) 2 rfl (by rw [ov_set (by omega)]) ?_
          refine tr_region ?_
          refine tl_step rfl (oj_val (y_inc (fe_t rfl) fe_c (by omega)) ?_)
          refine tl_step rfl (oj_val (y_move (fe_t rfl)) ?_)
          refine tl_nil ?_
          apply tx_back1 (k + 1)
          · exact (cov_cons (by first | rfl | exact v_int (by omega) | exact v_bool (by simp [*])) (cov_nil))
          · repeat (first | exact over_nil | refine over_put rfl ?_ | refine over_drop rfl ?_)
          · exact fun w h => h.pick [0, 1, 2, 3] _ rfl (by decide)
          · exact ⟨by omega, by omega⟩
      · try (exfalso; omega)
        all_goals
          refine tr_exit ?_
          refine tx_then_exit ?_
          refine tx_then_exit ?_
          refine tx_in_exit ?_
          refine tx_then ?_
          refine tr_seq ?_
          obtain rfl : k = 8 := by omega
          refine tr_as (r' := vec 5 1 (.slice (some ⟨g1, 0, none⟩) (m + 4 + 20) (m + 4 + 20)) (m + 4 + 20) (cB (hdr h 0 ++ List.replicate (m + 4) 0))) 2 rfl rfl ?_
          refine tr_region ?_
          refine tl_step rfl (oj_val (y_move (fe_t rfl)) ?_)
          refine tl_step rfl (oj_val (y_cutH (l := 20) Try.underlying39 Try.sizeOf5 (fe_t rfl) fe_c (by omega)) ?_)
          refine tl_step rfl (oj_callv Try.call53 fe_f (fel_cons (fe_t rfl) fel_nil) (fun w' hS => checkE _ _ _ (hdr h 0) w' ((rdl_pre (rdl_vec 2 rfl) (cB_app (hdr h 0) (List.replicate (m + 4) 0))) w' hS) rfl rfl (hdr_by ho hw0 (by decide) (by decide)) (by decide)) ?_)
          refine tl_step rfl (oj_val (y_assign (fe_t rfl)) ?_)
          refine tl_nil ?_
          refine tx_then ?_
          refine tr_seq ?_
          refine tr_region ?_
          refine tl_step rfl (oj_val (y_move (fe_t rfl)) ?_)
          refine tl_step rfl (oj_val (y_move (fe_t rfl)) ?_)
          refine tl_step rfl (oj_val (y_move (fe_t rfl)) ?_)
          refine tl_step rfl (oj_val (y_shrq (c := ck h / 256) (fe_t rfl) fe_c (by decide) (div8 _ .u16 (by decide))) ?_)
          refine tl_step rfl (oj_val (y_convq (c := ck h / 256) Try.underlying104 Try.underlying5 (fe_t rfl) (IntWalk.u8_in _ (by omega))) ?_)
          refine tl_step rfl (oj_val (y_move (fe_t rfl)) ?_)
          refine tl_step rfl (oj_val (y_convq (c := ck h % 256) Try.underlying104 Try.underlying5 (fe_t rfl) ((IntKind.wrap_u8' _))) ?_)
          refine tl_step rfl (oj_val (y_indexI (m := 10) Try.underlying39 Try.sizeOf5 (fe_t rfl) fe_c (rdl_vec 2 rfl) (by first | (rw [cB_len, ov_len (by omega), Nat.mul_one]; done) | (simp [cB]; done) | (simp [cB, hdr]; done) | (simp [cB, hdr]; omega)) (by decide) (by decide) (by omega) rfl) ?_)
          refine tl_step rfl (oj_storeE1 (i := 2) Try.sizeOf5 (fe_t rfl) (fe_t rfl) rfl rfl rfl (by omega) (?_))
          refine tl_step rfl (oj_val (y_indexI (m := 11) Try.underlying39 Try.sizeOf5 (fe_t rfl) fe_c (rdl_vec 2 rfl) (by first | (rw [cB_len, ov_len (by omega), Nat.mul_one]; done) | (simp [cB]; done) | (simp [cB, hdr]; done) | (simp [cB, hdr]; omega)) (by decide) (by decide) (by omega) rfl) ?_)
          refine tl_step rfl (oj_storeE1 (i := 2) Try.sizeOf5 (fe_t rfl) (fe_t rfl) rfl rfl rfl (by omega) (?_))
          refine tl_nil ?_
          refine tx_then ?_
          refine tr_seq ?_
          refine tr_seq ?_
          refine tr_as (r' := vec 5 1 (.slice (some ⟨g1, 0, none⟩) (m + 4 + 20) (m + 4 + 20)) (m + 4 + 20) (cB (hdr h (ck h) ++ List.replicate (m + 4) 0))) 2 rfl rfl ?_
          refine tr_region ?_
          refine tl_step rfl (oj_val (y_fieldAddr (td := 3) Try.underlying38 rfl rfl Try.sizeOf3 (o' := 8) rfl (fe_t rfl)) ?_)
          refine tl_step rfl (oj_val (y_ldb 3 Try.isAgg3 (fe_t rfl) rfl rfl) ?_)
          refine tl_step rfl (oj_val (y_eq (fe_t rfl) fe_c) ?_)
          refine tl_step rfl (oj_val (y_move (fe_t rfl)) ?_)
          refine tl_splitp (d := 78) rfl (fun hq5 => ?_) (fun hq6 => ?_)
          · try (exfalso; omega)
            all_goals
              refine tl_skip rfl rfl rfl rfl ?_
              refine tl_skip rfl rfl rfl rfl ?_
              refine tl_skip rfl rfl rfl rfl ?_
              refine tl_step rfl (oj_val (y_pickt (fe_t rfl) fe_c) ?_)
              refine tl_nil ?_
              refine tx_then ?_
              refine tr_condt (fe_t rfl) ?_
              refine tr_seq ?_
              refine tr_region ?_
              refine tl_step rfl (oj_val (y_move (fe_t rfl)) ?_)
              refine tl_step rfl (oj_val (y_move (fe_t rfl)) ?_)
              refine tl_step rfl (oj_val (y_fieldAddr (td := 3) Try.underlying38 rfl rfl Try.sizeOf3 (o' := 9) rfl (fe_t rfl)) ?_)
              refine tl_step rfl (oj_val (y_ldb 3 Try.isAgg3 (fe_t rfl) rfl rfl) ?_)
              refine tl_step rfl (oj_val (y_shrq (c := h.sp / 256) (fe_t rfl) fe_c (by decide) (div8 _ .i64 (by decide))) ?_)
              refine tl_step rfl (oj_val (y_convq (c := h.sp / 256) Try.underlying3 Try.underlying5 (fe_t rfl) (IntWalk.u8_in _ (by omega))) ?_)
              refine tl_step rfl (oj_val (y_fieldAddr (td := 3) Try.underlying38 rfl rfl Try.sizeOf3 (o' := 9) rfl (fe_t rfl)) ?_)
              refine tl_step rfl (oj_val (y_ldb 3 Try.isAgg3 (fe_t rfl) rfl rfl) ?_)
              refine tl_step rfl (oj_val (y_convq (c := h.sp % 256) Try.underlying3 Try.underlying5 (fe_t rfl) ((IntKind.wrap_u8' _))) ?_)
              refine tl_step rfl (oj_val (y_indexI (m := 20) Try.underlying39 Try.sizeOf5 (fe_t rfl) fe_c (rdl_vec 2 rfl) (by first | (rw [cB_len, ov_len (by omega), Nat.mul_one]; done) | (simp [cB]; done) | (simp [cB, hdr]; done) | (simp [cB, hdr]; omega)) (by decide) (by decide) (by omega) rfl) ?_)
              refine tl_step rfl (oj_storeE1 (i := 2) Try.sizeOf5 (fe_t rfl) (fe_t rfl) rfl rfl rfl (by omega) (?_))
              refine tl_step rfl (oj_val (y_indexI (m := 21) Try.underlying39 Try.sizeOf5 (fe_t rfl) fe_c (rdl_vec 2 rfl) (by first | (rw [cB_len, ov_len (by omega), Nat.mul_one]; done) | (simp [cB]; done) | (simp [cB, hdr]; done) | (simp [cB, hdr]; omega)) (by decide) (by decide) (by omega) rfl) ?_)
              refine tl_step rfl (oj_storeE1 (i := 2) Try.sizeOf5 (fe_t rfl) (fe_t rfl) rfl rfl rfl (by omega) (?_))
              refine tl_nil ?_
              refine tx_then ?_
              refine tr_region ?_
              refine tl_step rfl (oj_val (y_move (fe_t rfl)) ?_)
              refine tl_step rfl (oj_val (y_move (fe_t rfl)) ?_)
              refine tl_step rfl (oj_val (y_fieldAddr (td := 3) Try.underlying38 rfl rfl Try.sizeOf3 (o' := 10) rfl (fe_t rfl)) ?_)
              refine tl_step rfl (oj_val (y_ldb 3 Try.isAgg3 (fe_t rfl) rfl rfl) ?_)
              refine tl_step rfl (oj_val (y_shrq (c := h.dp / 256) (fe_t rfl) fe_c (by decide) (div8 _ .i64 (by decide))) ?_)
              refine tl_step rfl (oj_val (y_convq (c := h.dp / 256) Try.underlying3 Try.underlying5 (fe_t rfl) (IntWalk.u8_in _ (by omega))) ?_)
              refine tl_step rfl (oj_val (y_fieldAddr (td := 3) Try.underlying38 rfl rfl Try.sizeOf3 (o' := 10) rfl (fe_t rfl)) ?_)
              refine tl_step rfl (oj_val (y_ldb 3 Try.isAgg3 (fe_t rfl) rfl rfl) ?_)
              refine tl_step rfl (oj_val (y_convq (c := h.dp % 256) Try.underlying3 Try.underlying5 (fe_t rfl) ((IntKind.wrap_u8' _))) ?_)
              refine tl_step rfl (oj_val (y_indexI (m := 22) Try.underlying39 Try.sizeOf5 (fe_t rfl) fe_c (rdl_vec 2 rfl) (by first | (rw [cB_len, ov_len (by omega), Nat.mul_one]; done) | (simp [cB]; done) | (simp [cB, hdr]; done) | (simp [cB, hdr]; omega)) (by decide) (by decide) (by omega) rfl) ?_)
              refine tl_step rfl (oj_storeE1 (i := 2) Try.sizeOf5 (fe_t rfl) (fe_t rfl) rfl rfl rfl (by omega) (?_))
              refine tl_step rfl (oj_val (y_indexI (m := 23) Try.underlying39 Try.sizeOf5 (fe_t rfl) fe_c (rdl_vec 2 rfl) (by first | (rw [cB_len, ov_len (by omega), Nat.mul_one]; done) | (simp [cB]; done) | (simp [cB, hdr]; done) | (simp [cB, hdr]; omega)) (by decide) (by decide) (by omega) rfl) ?_)
              refine tl_step rfl (oj_storeE1 (i := 2) Try.sizeOf5 (fe_t rfl) (fe_t rfl) rfl rfl rfl (by omega) (?_))
              refine tl_nil ?_
              refine tx_then ?_
              refine tr_seq ?_
              refine tr_as (r' := vec 5 1 (.slice (some ⟨g1, 0, none⟩) (m + 4 + 20) (m + 4 + 20)) (m + 4 + 20) (cB (hdr h (ck h) ++ pb h ++ List.replicate m 0))) 2 rfl rfl ?_
              refine tr_region ?_
              refine tl_step rfl (oj_val (y_move (fe_t rfl)) ?_)
              refine tl_step rfl (oj_val (y_assign (fe_t rfl)) ?_)
              refine tl_step rfl (oj_val (y_assign fe_c) ?_)
              refine tl_nil ?_
              refine tx_then ?_
              refine tr_ret ?_
              refine tx_ret (res2 Try.results16 (rok_t rfl) (rok_t rfl)) (fun w' hS => ?_)
              exact ⟨⟨(some ⟨g1, 0, none⟩), (m + 4 + 20), (m + 4 + 20), cB (wb h)⟩, ⟨by rw [hwb]; simp [hdr, pb]; try omega, rfl⟩, rfl, by rw [hwb]; exact hS.pick [2] _ rfl (by decide)⟩
          · try (exfalso; omega)
            all_goals
              refine tl_want rfl rfl rfl (oj_val (y_fieldAddr (td := 3) Try.underlying38 rfl rfl Try.sizeOf3 (o' := 8) rfl (fe_t rfl)) ?_)
              refine tl_want rfl rfl rfl (oj_val (y_ldb 3 Try.isAgg3 (fe_t rfl) rfl rfl) ?_)
              refine tl_want rfl rfl rfl (oj_val (y_eq (fe_t rfl) fe_c) ?_)
              refine tl_step rfl (oj_val (y_pickf (fe_t rfl) (fe_t rfl)) ?_)
              refine tl_nil ?_
              refine tx_then ?_
              refine tr_condp (fe_t rfl) (fun hq7 => ?_) (fun hq8 => ?_)
              · try (exfalso; omega)
                all_goals
                  refine tr_seq ?_
                  refine tr_region ?_
                  refine tl_step rfl (oj_val (y_move (fe_t rfl)) ?_)
                  refine tl_step rfl (oj_val (y_move (fe_t rfl)) ?_)
                  refine tl_step rfl (oj_val (y_fieldAddr (td := 3) Try.underlying38 rfl rfl Try.sizeOf3 (o' := 9) rfl (fe_t rfl)) ?_)
                  refine tl_step rfl (oj_val (y_ldb 3 Try.isAgg3 (fe_t rfl) rfl rfl) ?_)
                  refine tl_step rfl (oj_val (y_shrq (c := h.sp / 256) (fe_t rfl) fe_c (by decide) (div8 _ .i64 (by decide))) ?_)
                  refine tl_step rfl (oj_val (y_convq (c := h.sp / 256) Try.underlying3 Try.underlying5 (fe_t rfl) (IntWalk.u8_in _ (by omega))) ?_)
                  refine tl_step rfl (oj_val (y_fieldAddr (td := 3) Try.underlying38 rfl rfl Try.sizeOf3 (o' := 9) rfl (fe_t rfl)) ?_)
                  refine tl_step rfl (oj_val (y_ldb 3 Try.isAgg3 (fe_t rfl) rfl rfl) ?_)
                  refine tl_step rfl (oj_val (y_convq (c := h.sp % 256) Try.underlying3 Try.underlying5 (fe_t rfl) ((IntKind.wrap_u8' _))) ?_)
                  refine tl_step rfl (oj_val (y_indexI (m := 20) Try.underlying39 Try.sizeOf5 (fe_t rfl) fe_c (rdl_vec 2 rfl) (by first | (rw [cB_len, ov_len (by omega), Nat.mul_one]; done) | (simp [cB]; done) | (simp [cB, hdr]; done) | (simp [cB, hdr]; omega)) (by decide) (by decide) (by omega) rfl) ?_)
                  refine tl_step rfl (oj_storeE1 (i := 2) Try.sizeOf5 (fe_t rfl) (fe_t rfl) rfl rfl rfl (by omega) (?_))
                  refine tl_step rfl (oj_val (y_indexI (m := 21) Try.underlying39 Try.sizeOf5 (fe_t rfl) fe_c (rdl_vec 2 rfl) (by first | (rw [cB_len, ov_len (by omega), Nat.mul_one]; done) | (simp [cB]; done) | (simp [cB, hdr]; done) | (simp [cB, hdr]; omega)) (by decide) (by decide) (by omega) rfl) ?_)
                  refine tl_step rfl (oj_storeE1 (i := 2) Try.sizeOf5 (fe_t rfl) (fe_t rfl) rfl rfl rfl (by omega) (?_))
                  refine tl_nil ?_
                  refine tx_then ?_
                  refine tr_region ?_
                  refine tl_step rfl (oj_val (y_move (fe_t rfl)) ?_)
                  refine tl_step rfl (oj_val (y_move (fe_t rfl)) ?_)
                  refine tl_step rfl (oj_val (y_fieldAddr (td := 3) Try.underlying38 rfl rfl Try.sizeOf3 (o' := 10) rfl (fe_t rfl)) ?_)
                  refine tl_step rfl (oj_val (y_ldb 3 Try.isAgg3 (fe_t rfl) rfl rfl) ?_)
                  refine tl_step rfl (oj_val (y_shrq (c := h.dp / 256) (fe_t rfl) fe_c (by decide) (div8 _ .i64 (by decide))) ?_)
                  refine tl_step rfl (oj_val (y_convq (c := h.dp / 256) Try.underlying3 Try.underlying5 (fe_t rfl) (IntWalk.u8_in _ (by omega))) ?_)
                  refine tl_step rfl (oj_val (y_fieldAddr (td := 3) Try.underlying38 rfl rfl Try.sizeOf3 (o' := 10) rfl (fe_t rfl)) ?_)
                  refine tl_step rfl (oj_val (y_ldb 3 Try.isAgg3 (fe_t rfl) rfl rfl) ?_)
                  refine tl_step rfl (oj_val (y_convq (c := h.dp % 256) Try.underlying3 Try.underlying5 (fe_t rfl) ((IntKind.wrap_u8' _))) ?_)
                  refine tl_step rfl (oj_val (y_indexI (m := 22) Try.underlying39 Try.sizeOf5 (fe_t rfl) fe_c (rdl_vec 2 rfl) (by first | (rw [cB_len, ov_len (by omega), Nat.mul_one]; done) | (simp [cB]; done) | (simp [cB, hdr]; done) | (simp [cB, hdr]; omega)) (by decide) (by decide) (by omega) rfl) ?_)
                  refine tl_step rfl (oj_storeE1 (i := 2) Try.sizeOf5 (fe_t rfl) (fe_t rfl) rfl rfl rfl (by omega) (?_))
                  refine tl_step rfl (oj_val (y_indexI (m := 23) Try.underlying39 Try.sizeOf5 (fe_t rfl) fe_c (rdl_vec 2 rfl) (by first | (rw [cB_len, ov_len (by omega), Nat.mul_one]; done) | (simp [cB]; done) | (simp [cB, hdr]; done) | (simp [cB, hdr]; omega)) (by decide) (by decide) (by omega) rfl) ?_)
                  refine tl_step rfl (oj_storeE1 (i := 2) Try.sizeOf5 (fe_t rfl) (fe_t rfl) rfl rfl rfl (by omega) (?_))
                  refine tl_nil ?_
                  refine tx_then ?_
                  refine tr_seq ?_
                  refine tr_as (r' := vec 5 1 (.slice (some ⟨g1, 0, none⟩) (m + 4 + 20) (m + 4 + 20)) (m + 4 + 20) (cB (hdr h (ck h) ++ pb h ++ List.replicate m 0))) 2 rfl rfl ?_
                  refine tr_region ?_
                  refine tl_step rfl (oj_val (y_move (fe_t rfl)) ?_)
                  refine tl_step rfl (oj_val (y_assign (fe_t rfl)) ?_)
                  refine tl_step rfl (oj_val (y_assign fe_c) ?_)
                  refine tl_nil ?_
                  refine tx_then ?_
                  refine tr_ret ?_
                  refine tx_ret (res2 Try.results16 (rok_t rfl) (rok_t rfl)) (fun w' hS => ?_)
                  exact ⟨⟨(some ⟨g1, 0, none⟩), (m + 4 + 20), (m + 4 + 20), cB (wb h)⟩, ⟨by rw [hwb]; simp [hdr, pb]; try omega, rfl⟩, rfl, by rw [hwb]; exact hS.pick [2] _ rfl (by decide)⟩
              · try (exfalso; omega)
                all_goals
                  refine tr_skip ?_
                  refine tx_then ?_
                  refine tr_seq ?_
                  refine tr_as (r' := vec 5 1 (.slice (some ⟨g1, 0, none⟩) (m + 4 + 20) (m + 4 + 20)) (m + 4 + 20) (cB (hdr h (ck h) ++ pb h ++ List.replicate m 0))) 2 rfl rfl ?_
                  refine tr_region ?_
                  refine tl_step rfl (oj_val (y_move (fe_t rfl)) ?_)
                  refine tl_step rfl (oj_val (y_assign (fe_t rfl)) ?_)
                  refine tl_step rfl (oj_val (y_assign fe_c) ?_)
                  refine tl_nil ?_
                  refine tx_then ?_
                  refine tr_ret ?_
                  refine tx_ret (res2 Try.results16 (rok_t rfl) (rok_t rfl)) (fun w' hS => ?_)
                  exact ⟨⟨(some ⟨g1, 0, none⟩), (m + 4 + 20), (m + 4 + 20), cB (wb h)⟩, ⟨by rw [hwb]; simp [hdr, pb]; try omega, rfl⟩, rfl, by rw [hwb]; exact hS.pick [2] _ rfl (by decide)⟩

set_option maxRecDepth 100000 in
set_option maxHeartbeats 4000000 in
theorem write_n (h : Hd) (ho : h.ok) (hw0 : wr h = 0) (hp : ¬ (h.pr = 6 ∨ h.pr = 17)) {m : Nat} (hln : h.ln = (((m + 20) : Nat) : Int)) (w : World) :
    Calls Try.prog 16 #[.agg #[.int .u8 h.s0, .int .u8 h.s1, .int .u8 h.s2, .int .u8 h.s3, .int .u8 h.d0, .int .u8 h.d1, .int .u8 h.d2, .int .u8 h.d3, (.int .i64 h.pr), (.int .i64 h.sp), (.int .i64 h.dp), (.int .i64 h.ln), (.int .i64 h.mr)]] w fun e w' => ∃ q : Vs, (q.n = (wb h).length ∧ q.xs = cB (wb h)) ∧ e = .returned (.tuple #[.slice q.A q.n q.c, (.int .i64 0)]) ∧ St w w' [vec 5 1 (.slice q.A q.n q.c) q.n q.xs] := by
  have hwb := wb_n hp hln
  obtain ⟨hf1, hf2, hf3⟩ := wr_fine hw0
  have hck := ck_bd h
  refine calls_tr Try.func16 Try.ntmps16 rfl rfl (St.refl _) ?_
  refine tr_seq ?_
  refine tr_region ?_
  refine tl_step rfl (oj_box (fe_t rfl) (fun hb => ?_))
  refine tl_step rfl (oj_val (y_assign fe_c) ?_)
  refine tl_step rfl (oj_val (y_assign fe_c) ?_)
  refine tl_nil ?_
  refine tx_then ?_
  refine tr_seq ?_
  refine tr_seq ?_
  refine tr_region ?_
  refine tl_step rfl (oj_val (y_ldbA 0 Try.isAgg38 Try.sizeOf38 (fe_t rfl) rfl rfl rfl) ?_)
  refine tl_step rfl (oj_callv Try.call20 fe_f (fel_cons (fe_t rfl) fel_nil) (fun w' hS => wrongE h w') ?_)
  refine tl_step rfl (oj_val (y_assign (fe_t rfl)) ?_)
  refine tl_nil ?_
  refine tx_then ?_
  refine tr_seq ?_
  refine tr_region ?_
  refine tl_step rfl (oj_val (y_move (fe_t rfl)) ?_)
  refine tl_step rfl (oj_val (y_neq (fe_t rfl) fe_c) ?_)
  refine tl_nil ?_
  refine tx_then ?_
  refine tr_condp (fe_t rfl) (fun hq1 => ?_) (fun hq2 => ?_)
  · exact absurd hw0 hq1
  · try (exfalso; omega)
    all_goals
      refine tr_skip ?_
      refine tx_then ?_
      refine tr_seq ?_
      refine tr_region ?_
      refine tl_step rfl (oj_val (y_fieldAddr (td := 3) Try.underlying38 rfl rfl Try.sizeOf3 (o' := 11) rfl (fe_t rfl)) ?_)
      refine tl_step rfl (oj_val (y_ldb 0 Try.isAgg3 (fe_t rfl) rfl rfl) ?_)
      refine tl_step rfl (oj_make (n := (m + 20)) (z := .int .u8 0) (bytes := 1) Try.underlying39 (by kernel_rfl) (fe_i hln rfl) (fe_i hln rfl) rfl ⟨by omega, by decide⟩ (fun g1 => ?_))
      refine tl_step rfl (oj_val (y_assign (fe_t rfl)) ?_)
      refine tl_nil ?_
      refine tx_then ?_
      refine tr_seq ?_
      refine tr_as (r' := vec 5 1 (.slice (some ⟨g1, 0, none⟩) (m + 20) (m + 20)) (m + 20) (cB (List.replicate (m + 20) 0))) 0 rfl (by first | rfl | (rw [rep_cB _]) | (exact congrArg _ (rep_cB _))) ?_
      refine tr_region ?_
      refine tl_step rfl (oj_val (y_move (fe_t rfl)) ?_)
      refine tl_step rfl (oj_val (y_move (fe_t rfl)) ?_)
      refine tl_step rfl (oj_val (y_fieldAddr (td := 3) Try.underlying38 rfl rfl Try.sizeOf3 (o' := 12) rfl (fe_t rfl)) ?_)
      refine tl_step rfl (oj_val (y_ldb 1 Try.isAgg3 (fe_t rfl) rfl rfl) ?_)
      refine tl_step rfl (oj_val (y_shlq (c := 4 * h.mr) (fe_t rfl) fe_c (by decide) (by show IntKind.i64.wrap (h.mr * 4) = 4 * h.mr; rw [IntWalk.i64_in _ (by omega)]; omega)) ?_)
      refine tl_step rfl (oj_val (y_convq (c := 4 * h.mr) Try.underlying3 Try.underlying5 (fe_t rfl) (IntWalk.u8_in _ (by omega))) ?_)
      refine tl_step rfl (oj_val (y_indexI (m := 0) Try.underlying39 Try.sizeOf5 (fe_t rfl) fe_c (rdl_vec 0 rfl) (by first | (rw [cB_len, ov_len (by omega), Nat.mul_one]; done) | (simp [cB]; done) | (simp [cB, hdr]; done) | (simp [cB, hdr]; omega)) (by decide) (by decide) (by omega) rfl) ?_)
      refine tl_step rfl (oj_storeE1 (i := 0) Try.sizeOf5 (fe_t rfl) fe_c rfl rfl rfl (by omega) (?_))
      refine tl_step rfl (oj_val (y_indexI (m := 1) Try.underlying39 Try.sizeOf5 (fe_t rfl) fe_c (rdl_vec 0 rfl) (by first | (rw [cB_len, ov_len (by omega), Nat.mul_one]; done) | (simp [cB]; done) | (simp [cB, hdr]; done) | (simp [cB, hdr]; omega)) (by decide) (by decide) (by omega) rfl) ?_)
      refine tl_step rfl (oj_storeE1 (i := 0) Try.sizeOf5 (fe_t rfl) (fe_t rfl) rfl rfl rfl (by omega) (?_))
      refine tl_nil ?_
      refine tx_then ?_
      refine tr_seq ?_
      refine tr_region ?_
      refine tl_step rfl (oj_val (y_move (fe_t rfl)) ?_)
      refine tl_step rfl (oj_val (y_move (fe_t rfl)) ?_)
      refine tl_step rfl (oj_val (y_fieldAddr (td := 3) Try.underlying38 rfl rfl Try.sizeOf3 (o' := 11) rfl (fe_t rfl)) ?_)
      refine tl_step rfl (oj_val (y_ldb 1 Try.isAgg3 (fe_t rfl) rfl rfl) ?_)
      refine tl_step rfl (oj_val (y_shrq (c := h.ln / 256) (fe_t rfl) fe_c (by decide) (div8 _ .i64 (by decide))) ?_)
      refine tl_step rfl (oj_val (y_convq (c := h.ln / 256) Try.underlying3 Try.underlying5 (fe_t rfl) (IntWalk.u8_in _ (by omega))) ?_)
      refine tl_step rfl (oj_val (y_fieldAddr (td := 3) Try.underlying38 rfl rfl Try.sizeOf3 (o' := 11) rfl (fe_t rfl)) ?_)
      refine tl_step rfl (oj_val (y_ldb 1 Try.isAgg3 (fe_t rfl) rfl rfl) ?_)
      refine tl_step rfl (oj_val (y_convq (c := h.ln % 256) Try.underlying3 Try.underlying5 (fe_t rfl) ((IntKind.wrap_u8' _))) ?_)
      refine tl_step rfl (oj_val (y_indexI (m := 2) Try.underlying39 Try.sizeOf5 (fe_t rfl) fe_c (rdl_vec 0 rfl) (by first | (rw [cB_len, ov_len (by omega), Nat.mul_one]; done) | (simp [cB]; done) | (simp [cB, hdr]; done) | (simp [cB, hdr]; omega)) (by decide) (by decide) (by omega) rfl) ?_)
      refine tl_step rfl (oj_storeE1 (i := 0) Try.sizeOf5 (fe_t rfl) (fe_t rfl) rfl rfl rfl (by omega) (?_))
      refine tl_step rfl (oj_val (y_indexI (m := 3) Try.underlying39 Try.sizeOf5 (fe_t rfl) fe_c (rdl_vec 0 rfl) (by first | (rw [cB_len, ov_len (by omega), Nat.mul_one]; done) | (simp [cB]; done) | (simp [cB, hdr]; done) | (simp [cB, hdr]; omega)) (by decide) (by decide) (by omega) rfl) ?_)
      refine tl_step rfl (oj_storeE1 (i := 0) Try.sizeOf5 (fe_t rfl) (fe_t rfl) rfl rfl rfl (by omega) (?_))
      refine tl_nil ?_
      refine tx_then ?_
      refine tr_seq ?_
      refine tr_region ?_
      refine tl_step rfl (oj_val (y_move (fe_t rfl)) ?_)
      refine tl_step rfl (oj_val (y_move (fe_t rfl)) ?_)
      refine tl_step rfl (oj_val (y_fieldAddr (td := 3) Try.underlying38 rfl rfl Try.sizeOf3 (o' := 8) rfl (fe_t rfl)) ?_)
      refine tl_step rfl (oj_val (y_ldb 1 Try.isAgg3 (fe_t rfl) rfl rfl) ?_)
      refine tl_step rfl (oj_val (y_convq (c := h.pr) Try.underlying3 Try.underlying5 (fe_t rfl) (IntWalk.u8_in _ (by omega))) ?_)
      refine tl_step rfl (oj_val (y_indexI (m := 8) Try.underlying39 Try.sizeOf5 (fe_t rfl) fe_c (rdl_vec 0 rfl) (by first | (rw [cB_len, ov_len (by omega), Nat.mul_one]; done) | (simp [cB]; done) | (simp [cB, hdr]; done) | (simp [cB, hdr]; omega)) (by decide) (by decide) (by omega) rfl) ?_)
      refine tl_step rfl (oj_storeE1 (i := 0) Try.sizeOf5 (fe_t rfl) fe_c rfl rfl rfl (by omega) (?_))
      refine tl_step rfl (oj_val (y_indexI (m := 9) Try.underlying39 Try.sizeOf5 (fe_t rfl) fe_c (rdl_vec 0 rfl) (by first | (rw [cB_len, ov_len (by omega), Nat.mul_one]; done) | (simp [cB]; done) | (simp [cB, hdr]; done) | (simp [cB, hdr]; omega)) (by decide) (by decide) (by omega) rfl) ?_)
      refine tl_step rfl (oj_storeE1 (i := 0) Try.sizeOf5 (fe_t rfl) (fe_t rfl) rfl rfl rfl (by omega) (?_))
      refine tl_nil ?_
      refine tx_then ?_
      refine tr_seq ?_
      refine tb_draw 7 (sel _ [0, 1]) (fun w h => h.sel _ rfl (by decide)) rfl ?_
      refine tb_float (i := 0) rfl (by kernel_rfl) rfl (wants_none rfl) (yq_of (y_fieldAddr (td := 24) Try.underlying38 rfl rfl Try.sizeOf24 (o' := 0) rfl (fe_t rfl))) ?_
      refine tb_float (i := 1) rfl (by kernel_rfl) rfl (wants_none rfl) (yq_of (y_sliceArr (len := 4) Try.underlying24 Try.sizeOf5 (fe_t rfl) (by decide))) ?_
      refine tb_float (i := 2) rfl (by kernel_rfl) rfl (wants_none rfl) (yq_of (y_fieldAddr (td := 24) Try.underlying38 rfl rfl Try.sizeOf24 (o' := 4) rfl (fe_t rfl))) ?_
      refine tb_float (i := 3) rfl (by kernel_rfl) rfl (wants_none rfl) (yq_of (y_sliceArr (len := 4) Try.underlying24 Try.sizeOf5 (fe_t rfl) (by decide))) ?_
      refine tb_one2 (i := 4) rfl (by kernel_rfl) (by kernel_rfl) (wants_none rfl) (oj_lit2s Try.underlying107 Try.sizeOf39 Try.zeroValue39 (fe_t rfl) (fe_t rfl) (fun g2 => ⟨fun w h => h.pick [1, 2] _ rfl (by decide), ?_⟩))
      refine tb_one2 (i := 5) rfl (by kernel_rfl) (by kernel_rfl) (wants_none rfl) (oj_call Try.call52 fe_f (fel_cons (fe_t rfl) fel_nil) (fun w' hS => concatE (a := [h.s0, h.s1, h.s2, h.s3]) (b := [h.d0, h.d1, h.d2, h.d3]) w' ((rdl_vec 0 rfl) w' hS) (rdl_blkAt (xs := []) (ys := cB [h.s0, h.s1, h.s2, h.s3]) (zs := [.int .u8 h.d0, .int .u8 h.d1, .int .u8 h.d2, .int .u8 h.d3] ++ [(.int .i64 h.pr), (.int .i64 h.sp), (.int .i64 h.dp), (.int .i64 h.ln), (.int .i64 h.mr)]) 2 rfl rfl rfl w' hS) (rdl_blkAt (xs := [.int .u8 h.s0, .int .u8 h.s1, .int .u8 h.s2, .int .u8 h.s3]) (ys := cB [h.d0, h.d1, h.d2, h.d3]) (zs := [(.int .i64 h.pr), (.int .i64 h.sp), (.int .i64 h.dp), (.int .i64 h.ln), (.int .i64 h.mr)]) 2 rfl rfl rfl w' hS) rfl rfl) (fun q hq => ⟨fun w h => h.pick [2, 3] _ rfl (by decide), ?_⟩))
      refine tb_float (i := 6) rfl (by kernel_rfl) rfl (wants_none rfl) (yq_of (y_assign (fe_t rfl))) ?_
      refine tb_done (by kernel_rfl) ?_
      refine tx_then ?_
      refine tr_seq ?_
      refine tr_seq ?_
      refine tr_as (r' := vec 5 1 (.slice (some ⟨g1, 0, none⟩) (m + 20) (m + 20)) (m + 20) (cB (ov h m 0))) 2 rfl rfl ?_
      refine tr_region ?_
      refine tl_step rfl (oj_val (y_move (fe_t rfl)) ?_)
      refine tl_step rfl (oj_val (y_len Try.underlying39 (fe_t rfl)) ?_)
      refine tl_step rfl (oj_val (y_move fe_c) ?_)
      refine tl_nil ?_
      refine tx_then ?_
      refine tr_block ?_
      refine tr_loop1 [7, 8, 52, 53, 54, 55, 56, 57, 58, 59, 60, 61, 62] (fun (k : Nat) => [(52, .int .i64 (k : Int))]) 0 (fun (k : Nat) => [(2, vec 5 1 (.slice (some ⟨g1, 0, none⟩) (m + 20) (m + 20)) (m + 20) (cB (ov h m k)))]) (fun (k : Nat) => k ≤ 8) (fun (k : Nat) => 8 - k) (0) (cov_cons (by first | rfl | exact v_int (by omega) | exact v_bool (by simp [*])) (cov_nil)) (fun w h => h) ?_ ?_
      · try dsimp only
        omega
      intro k hp
      have hk := hp
      refine tr_seq ?_
      refine tr_region ?_
      refine tl_step rfl (oj_val (y_lss (fe_t rfl) (fe_t rfl)) ?_)
      refine tl_nil ?_
      refine tx_then ?_
      refine tr_seq ?_
      refine tr_condp (fe_t rfl) (fun hq3 => ?_) (fun hq4 => ?_)
      · try (exfalso; omega)
        all_goals
          refine tr_skip ?_
          refine tx_then ?_
          refine tr_seq ?_
          refine tr_block ?_
          refine tr_seq ?_
          refine tr_region ?_
          refine tl_step rfl (oj_val (y_move (fe_t rfl)) ?_)
          refine tl_step rfl (oj_val (y_index Try.underlying39 Try.sizeOf5 (fe_t rfl) (fe_t rfl) (rdl_vec 0 rfl) (by rw [hq.2, hq.1]; rfl) (by decide) (by omega) (Nat.mul_one _)) ?_)
          refine tl_step rfl (oj_val (y_ld (v := .int .u8 ((sd h).getD k 0)) Try.isAgg5 (fe_t rfl) (rdl_vec 0 rfl) (by rw [hq.2]; exact sd_at (by omega))) ?_)
          refine tl_step rfl (oj_val (y_assign (fe_t rfl)) ?_)
          refine tl_step rfl (oj_val (y_assign (fe_t rfl)) ?_)
          refine tl_nil ?_
          refine tx_then ?_
          refine tr_region ?_
          refine tl_step rfl (oj_val (y_move (fe_t rfl)) ?_)
          refine tl_step rfl (oj_val (y_move (fe_t rfl)) ?_)
          refine tl_step rfl (oj_val (y_add fe_c (fe_t rfl) (by omega)) ?_)
          refine tl_step rfl (oj_val (y_move (fe_t rfl)) ?_)
          refine tl_step rfl (oj_val (y_indexI Try.underlying39 Try.sizeOf5 (fe_t rfl) (fe_t rfl) (rdl_vec 2 rfl) (by first | (rw [cB_len, ov_len (by omega), Nat.mul_one]; done) | (simp [cB]; done) | (simp [cB, hdr]; done) | (simp [cB, hdr]; omega)) (by decide) (by omega) (by omega) (Nat.mul_one _)) ?_)
          refine tl_step rfl (oj_storeE1 (i := 2) Try.sizeOf5 (fe_t rfl) (fe_t rfl) rfl rfl rfl (by omega) (?_))
          refine tl_nil ?_
          refine tx_in ?_
          refine tx_then ?_
          refine tr_as (r' := vec 5 1 (.slice (some ⟨g1, 0, none⟩) (m + 20) (m + 20)) (m + 20) (cB (ov h m (k + 1)))) 2 rfl (by rw [ov_set (by omega)]) ?_
          refine tr_region ?_
          refine tl_step rfl (oj_val (y_inc (fe_t rfl) fe_c (by omega)) ?_)
          refine tl_step rfl (oj_val (y_move (fe_t rfl)) ?_)
          refine tl_nil ?_
          apply tx_back1 (k + 1)
          · exact (cov_cons (by first | rfl | exact v_int (by omega) | exact v_bool (by simp [*])) (cov_nil))
          · repeat (first | exact over_nil | refine over_put rfl ?_ | refine over_drop rfl ?_)
          · exact fun w h => h.pick [0, 1, 2, 3] _ rfl (by decide)
          · exact ⟨by omega, by omega⟩
      · try (exfalso; omega)
        all_goals
          refine tr_exit ?_
          refine tx_then_exit ?_
          refine tx_then_exit ?_
          refine tx_in_exit ?_
          refine tx_then ?_
          refine tr_seq ?_
          obtain rfl : k = 8 := by omega
          refine tr_as (r' := vec 5 1 (.slice (some ⟨g1, 0, none⟩) (m + 20) (m + 20)) (m + 20) (cB (hdr h 0 ++ List.replicate m 0))) 2 rfl rfl ?_
          refine tr_region ?_
          refine tl_step rfl (oj_val (y_move (fe_t rfl)) ?_)
          refine tl_step rfl (oj_val (y_cutH (l := 20) Try.underlying39 Try.sizeOf5 (fe_t rfl) fe_c (by omega)) ?_)
          refine tl_step rfl (oj_callv Try.call53 fe_f (fel_cons (fe_t rfl) fel_nil) (fun w' hS => checkE _ _ _ (hdr h 0) w' ((rdl_pre (rdl_vec 2 rfl) (cB_app (hdr h 0) (List.replicate m 0))) w' hS) rfl rfl (hdr_by ho hw0 (by decide) (by decide)) (by decide)) ?_)
          refine tl_step rfl (oj_val (y_assign (fe_t rfl)) ?_)
          refine tl_nil ?_
          refine tx_then ?_
          refine tr_seq ?_
          refine tr_region ?_
          refine tl_step rfl (oj_val (y_move (fe_t rfl)) ?_)
          refine tl_step rfl (oj_val (y_move (fe_t rfl)) ?_)
          refine tl_step rfl (oj_val (y_move (fe_t rfl)) ?_)
          refine tl_step rfl (oj_val (y_shrq (c := ck h / 256) (fe_t rfl) fe_c (by decide) (div8 _ .u16 (by decide))) ?_)
          refine tl_step rfl (oj_val (y_convq (c := ck h / 256) Try.underlying104 Try.underlying5 (fe_t rfl) (IntWalk.u8_in _ (by omega))) ?_)
          refine tl_step rfl (oj_val (y_move (fe_t rfl)) ?_)
          refine tl_step rfl (oj_val (y_convq (c := ck h % 256) Try.underlying104 Try.underlying5 (fe_t rfl) ((IntKind.wrap_u8' _))) ?_)
          refine tl_step rfl (oj_val (y_indexI (m := 10) Try.underlying39 Try.sizeOf5 (fe_t rfl) fe_c (rdl_vec 2 rfl) (by first | (rw [cB_len, ov_len (by omega), Nat.mul_one]; done) | (simp [cB]; done) | (simp [cB, hdr]; done) | (simp [cB, hdr]; omega)) (by decide) (by decide) (by omega) rfl) ?_)
          refine tl_step rfl (oj_storeE1 (i := 2) Try.sizeOf5 (fe_t rfl) (fe_t rfl) rfl rfl rfl (by omega) (?_))
          refine tl_step rfl (oj_val (y_indexI (m := 11) Try.underlying39 Try.sizeOf5 (fe_t rfl) fe_c (rdl_vec 2 rfl) (by first | (rw [cB_len, ov_len (by omega), Nat.mul_one]; done) | (simp [cB]; done) | (simp [cB, hdr]; done) | (simp [cB, hdr]; omega)) (by decide) (by decide) (by omega) rfl) ?_)
          refine tl_step rfl (oj_storeE1 (i := 2) Try.sizeOf5 (fe_t rfl) (fe_t rfl) rfl rfl rfl (by omega) (?_))
          refine tl_nil ?_
          refine tx_then ?_
          refine tr_seq ?_
          refine tr_seq ?_
          refine tr_as (r' := vec 5 1 (.slice (some ⟨g1, 0, none⟩) (m + 20) (m + 20)) (m + 20) (cB (hdr h (ck h) ++ List.replicate m 0))) 2 rfl rfl ?_
          refine tr_region ?_
          refine tl_step rfl (oj_val (y_fieldAddr (td := 3) Try.underlying38 rfl rfl Try.sizeOf3 (o' := 8) rfl (fe_t rfl)) ?_)
          refine tl_step rfl (oj_val (y_ldb 3 Try.isAgg3 (fe_t rfl) rfl rfl) ?_)
          refine tl_step rfl (oj_val (y_eq (fe_t rfl) fe_c) ?_)
          refine tl_step rfl (oj_val (y_move (fe_t rfl)) ?_)
          refine tl_splitp (d := 78) rfl (fun hq5 => ?_) (fun hq6 => ?_)
          · try (exfalso; omega)
            all_goals
              refine tl_skip rfl rfl rfl rfl ?_
              refine tl_skip rfl rfl rfl rfl ?_
              refine tl_skip rfl rfl rfl rfl ?_
              refine tl_step rfl (oj_val (y_pickt (fe_t rfl) fe_c) ?_)
              refine tl_nil ?_
              refine tx_then ?_
              refine tr_condt (fe_t rfl) ?_
              refine tr_seq ?_
              refine tr_region ?_
              refine tl_step rfl (oj_val (y_move (fe_t rfl)) ?_)
              refine tl_step rfl (oj_val (y_move (fe_t rfl)) ?_)
              refine tl_step rfl (oj_val (y_fieldAddr (td := 3) Try.underlying38 rfl rfl Try.sizeOf3 (o' := 9) rfl (fe_t rfl)) ?_)
              refine tl_step rfl (oj_val (y_ldb 3 Try.isAgg3 (fe_t rfl) rfl rfl) ?_)
              refine tl_step rfl (oj_val (y_shrq (c := h.sp / 256) (fe_t rfl) fe_c (by decide) (div8 _ .i64 (by decide))) ?_)
              refine tl_step rfl (oj_val (y_convq (c := h.sp / 256) Try.underlying3 Try.underlying5 (fe_t rfl) (IntWalk.u8_in _ (by omega))) ?_)
              refine tl_step rfl (oj_val (y_fieldAddr (td := 3) Try.underlying38 rfl rfl Try.sizeOf3 (o' := 9) rfl (fe_t rfl)) ?_)
              refine tl_step rfl (oj_val (y_ldb 3 Try.isAgg3 (fe_t rfl) rfl rfl) ?_)
              refine tl_step rfl (oj_val (y_convq (c := h.sp % 256) Try.underlying3 Try.underlying5 (fe_t rfl) ((IntKind.wrap_u8' _))) ?_)
              refine tl_step rfl (oj_val (y_indexI (m := 20) Try.underlying39 Try.sizeOf5 (fe_t rfl) fe_c (rdl_vec 2 rfl) (by first | (rw [cB_len, ov_len (by omega), Nat.mul_one]; done) | (simp [cB]; done) | (simp [cB, hdr]; done) | (simp [cB, hdr]; omega)) (by decide) (by decide) (by omega) rfl) ?_)
              refine tl_step rfl (oj_storeE1 (i := 2) Try.sizeOf5 (fe_t rfl) (fe_t rfl) rfl rfl rfl (by omega) (?_))
              refine tl_step rfl (oj_val (y_indexI (m := 21) Try.underlying39 Try.sizeOf5 (fe_t rfl) fe_c (rdl_vec 2 rfl) (by first | (rw [cB_len, ov_len (by omega), Nat.mul_one]; done) | (simp [cB]; done) | (simp [cB, hdr]; done) | (simp [cB, hdr]; omega)) (by decide) (by decide) (by omega) rfl) ?_)
              refine tl_step rfl (oj_storeE1 (i := 2) Try.sizeOf5 (fe_t rfl) (fe_t rfl) rfl rfl rfl (by omega) (?_))
              refine tl_nil ?_
              refine tx_then ?_
              refine tr_region ?_
              refine tl_step rfl (oj_val (y_move (fe_t rfl)) ?_)
              refine tl_step rfl (oj_val (y_move (fe_t rfl)) ?_)
              refine tl_step rfl (oj_val (y_fieldAddr (td := 3) Try.underlying38 rfl rfl Try.sizeOf3 (o' := 10) rfl (fe_t rfl)) ?_)
              refine tl_step rfl (oj_val (y_ldb 3 Try.isAgg3 (fe_t rfl) rfl rfl) ?_)
              refine tl_step rfl (oj_val (y_shrq (c := h.dp / 256) (fe_t rfl) fe_c (by decide) (div8 _ .i64 (by decide))) ?_)
              refine tl_step rfl (oj_val (y_convq (c := h.dp / 256) Try.underlying3 Try.underlying5 (fe_t rfl) (IntWalk.u8_in _ (by omega))) ?_)
              refine tl_step rfl (oj_val (y_fieldAddr (td := 3) Try.underlying38 rfl rfl Try.sizeOf3 (o' := 10) rfl (fe_t rfl)) ?_)
              refine tl_step rfl (oj_val (y_ldb 3 Try.isAgg3 (fe_t rfl) rfl rfl) ?_)
              refine tl_step rfl (oj_val (y_convq (c := h.dp % 256) Try.underlying3 Try.underlying5 (fe_t rfl) ((IntKind.wrap_u8' _))) ?_)
              refine tl_step rfl (oj_val (y_indexI (m := 22) Try.underlying39 Try.sizeOf5 (fe_t rfl) fe_c (rdl_vec 2 rfl) (by first | (rw [cB_len, ov_len (by omega), Nat.mul_one]; done) | (simp [cB]; done) | (simp [cB, hdr]; done) | (simp [cB, hdr]; omega)) (by decide) (by decide) (by omega) rfl) ?_)
              refine tl_step rfl (oj_storeE1 (i := 2) Try.sizeOf5 (fe_t rfl) (fe_t rfl) rfl rfl rfl (by omega) (?_))
              refine tl_step rfl (oj_val (y_indexI (m := 23) Try.underlying39 Try.sizeOf5 (fe_t rfl) fe_c (rdl_vec 2 rfl) (by first | (rw [cB_len, ov_len (by omega), Nat.mul_one]; done) | (simp [cB]; done) | (simp [cB, hdr]; done) | (simp [cB, hdr]; omega)) (by decide) (by decide) (by omega) rfl) ?_)
              refine tl_step rfl (oj_storeE1 (i := 2) Try.sizeOf5 (fe_t rfl) (fe_t rfl) rfl rfl rfl (by omega) (?_))
              refine tl_nil ?_
              refine tx_then ?_
              refine tr_seq ?_
              refine tr_as (r' := vec 5 1 (.slice (some ⟨g1, 0, none⟩) (m + 20) (m + 20)) (m + 20) (cB (hdr h (ck h) ++ List.replicate m 0))) 2 rfl rfl ?_
              refine tr_region ?_
              refine tl_step rfl (oj_val (y_move (fe_t rfl)) ?_)
              refine tl_step rfl (oj_val (y_assign (fe_t rfl)) ?_)
              refine tl_step rfl (oj_val (y_assign fe_c) ?_)
              refine tl_nil ?_
              refine tx_then ?_
              refine tr_ret ?_
              refine tx_ret (res2 Try.results16 (rok_t rfl) (rok_t rfl)) (fun w' hS => ?_)
              exact ⟨⟨(some ⟨g1, 0, none⟩), (m + 20), (m + 20), cB (wb h)⟩, ⟨by rw [hwb]; simp [hdr, pb]; try omega, rfl⟩, rfl, by rw [hwb]; exact hS.pick [2] _ rfl (by decide)⟩
          · try (exfalso; omega)
            all_goals
              refine tl_want rfl rfl rfl (oj_val (y_fieldAddr (td := 3) Try.underlying38 rfl rfl Try.sizeOf3 (o' := 8) rfl (fe_t rfl)) ?_)
              refine tl_want rfl rfl rfl (oj_val (y_ldb 3 Try.isAgg3 (fe_t rfl) rfl rfl) ?_)
              refine tl_want rfl rfl rfl (oj_val (y_eq (fe_t rfl) fe_c) ?_)
              refine tl_step rfl (oj_val (y_pickf (fe_t rfl) (fe_t rfl)) ?_)
              refine tl_nil ?_
              refine tx_then ?_
              refine tr_condp (fe_t rfl) (fun hq7 => ?_) (fun hq8 => ?_)
              · try (exfalso; omega)
                all_goals
                  refine tr_seq ?_
                  refine tr_region ?_
                  refine tl_step rfl (oj_val (y_move (fe_t rfl)) ?_)
                  refine tl_step rfl (oj_val (y_move (fe_t rfl)) ?_)
                  refine tl_step rfl (oj_val (y_fieldAddr (td := 3) Try.underlying38 rfl rfl Try.sizeOf3 (o' := 9) rfl (fe_t rfl)) ?_)
                  refine tl_step rfl (oj_val (y_ldb 3 Try.isAgg3 (fe_t rfl) rfl rfl) ?_)
                  refine tl_step rfl (oj_val (y_shrq (c := h.sp / 256) (fe_t rfl) fe_c (by decide) (div8 _ .i64 (by decide))) ?_)
                  refine tl_step rfl (oj_val (y_convq (c := h.sp / 256) Try.underlying3 Try.underlying5 (fe_t rfl) (IntWalk.u8_in _ (by omega))) ?_)
                  refine tl_step rfl (oj_val (y_fieldAddr (td := 3) Try.underlying38 rfl rfl Try.sizeOf3 (o' := 9) rfl (fe_t rfl)) ?_)
                  refine tl_step rfl (oj_val (y_ldb 3 Try.isAgg3 (fe_t rfl) rfl rfl) ?_)
                  refine tl_step rfl (oj_val (y_convq (c := h.sp % 256) Try.underlying3 Try.underlying5 (fe_t rfl) ((IntKind.wrap_u8' _))) ?_)
                  refine tl_step rfl (oj_val (y_indexI (m := 20) Try.underlying39 Try.sizeOf5 (fe_t rfl) fe_c (rdl_vec 2 rfl) (by first | (rw [cB_len, ov_len (by omega), Nat.mul_one]; done) | (simp [cB]; done) | (simp [cB, hdr]; done) | (simp [cB, hdr]; omega)) (by decide) (by decide) (by omega) rfl) ?_)
                  refine tl_step rfl (oj_storeE1 (i := 2) Try.sizeOf5 (fe_t rfl) (fe_t rfl) rfl rfl rfl (by omega) (?_))
                  refine tl_step rfl (oj_val (y_indexI (m := 21) Try.underlying39 Try.sizeOf5 (fe_t rfl) fe_c (rdl_vec 2 rfl) (by first | (rw [cB_len, ov_len (by omega), Nat.mul_one]; done) | (simp [cB]; done) | (simp [cB, hdr]; done) | (simp [cB, hdr]; omega)) (by decide) (by decide) (by omega) rfl) ?_)
                  refine tl_step rfl (oj_storeE1 (i := 2) Try.sizeOf5 (fe_t rfl) (fe_t rfl) rfl rfl rfl (by omega) (?_))
                  refine tl_nil ?_
                  refine tx_then ?_
                  refine tr_region ?_
                  refine tl_step rfl (oj_val (y_move (fe_t rfl)) ?_)
                  refine tl_step rfl (oj_val (y_move (fe_t rfl)) ?_)
                  refine tl_step rfl (oj_val (y_fieldAddr (td := 3) Try.underlying38 rfl rfl Try.sizeOf3 (o' := 10) rfl (fe_t rfl)) ?_)
                  refine tl_step rfl (oj_val (y_ldb 3 Try.isAgg3 (fe_t rfl) rfl rfl) ?_)
                  refine tl_step rfl (oj_val (y_shrq (c := h.dp / 256) (fe_t rfl) fe_c (by decide) (div8 _ .i64 (by decide))) ?_)
                  refine tl_step rfl (oj_val (y_convq (c := h.dp / 256) Try.underlying3 Try.underlying5 (fe_t rfl) (IntWalk.u8_in _ (by omega))) ?_)
                  refine tl_step rfl (oj_val (y_fieldAddr (td := 3) Try.underlying38 rfl rfl Try.sizeOf3 (o' := 10) rfl (fe_t rfl)) ?_)
                  refine tl_step rfl (oj_val (y_ldb 3 Try.isAgg3 (fe_t rfl) rfl rfl) ?_)
                  refine tl_step rfl (oj_val (y_convq (c := h.dp % 256) Try.underlying3 Try.underlying5 (fe_t rfl) ((IntKind.wrap_u8' _))) ?_)
                  refine tl_step rfl (oj_val (y_indexI (m := 22) Try.underlying39 Try.sizeOf5 (fe_t rfl) fe_c (rdl_vec 2 rfl) (by first | (rw [cB_len, ov_len (by omega), Nat.mul_one]; done) | (simp [cB]; done) | (simp [cB, hdr]; done) | (simp [cB, hdr]; omega)) (by decide) (by decide) (by omega) rfl) ?_)
                  refine tl_step rfl (oj_storeE1 (i := 2) Try.sizeOf5 (fe_t rfl) (fe_t rfl) rfl rfl rfl (by omega) (?_))
                  refine tl_step rfl (oj_val (y_indexI (m := 23) Try.underlying39 Try.sizeOf5 (fe_t rfl) fe_c (rdl_vec 2 rfl) (by first | (rw [cB_len, ov_len (by omega), Nat.mul_one]; done) | (simp [cB]; done) | (simp [cB, hdr]; done) | (simp [cB, hdr]; omega)) (by decide) (by decide) (by omega) rfl) ?_)
                  refine tl_step rfl (oj_storeE1 (i := 2) Try.sizeOf5 (fe_t rfl) (fe_t rfl) rfl rfl rfl (by omega) (?_))
                  refine tl_nil ?_
                  refine tx_then ?_
                  refine tr_seq ?_
                  refine tr_as (r' := vec 5 1 (.slice (some ⟨g1, 0, none⟩) (m + 20) (m + 20)) (m + 20) (cB (hdr h (ck h) ++ List.replicate m 0))) 2 rfl rfl ?_
                  refine tr_region ?_
                  refine tl_step rfl (oj_val (y_move (fe_t rfl)) ?_)
                  refine tl_step rfl (oj_val (y_assign (fe_t rfl)) ?_)
                  refine tl_step rfl (oj_val (y_assign fe_c) ?_)
                  refine tl_nil ?_
                  refine tx_then ?_
                  refine tr_ret ?_
                  refine tx_ret (res2 Try.results16 (rok_t rfl) (rok_t rfl)) (fun w' hS => ?_)
                  exact ⟨⟨(some ⟨g1, 0, none⟩), (m + 20), (m + 20), cB (wb h)⟩, ⟨by rw [hwb]; simp [hdr, pb]; try omega, rfl⟩, rfl, by rw [hwb]; exact hS.pick [2] _ rfl (by decide)⟩
              · try (exfalso; omega)
                all_goals
                  refine tr_skip ?_
                  refine tx_then ?_
                  refine tr_seq ?_
                  refine tr_as (r' := vec 5 1 (.slice (some ⟨g1, 0, none⟩) (m + 20) (m + 20)) (m + 20) (cB (hdr h (ck h) ++ List.replicate m 0))) 2 rfl rfl ?_
                  refine tr_region ?_
                  refine tl_step rfl (oj_val (y_move (fe_t rfl)) ?_)
                  refine tl_step rfl (oj_val (y_assign (fe_t rfl)) ?_)
                  refine tl_step rfl (oj_val (y_assign fe_c) ?_)
                  refine tl_nil ?_
                  refine tx_then ?_
                  refine tr_ret ?_
                  refine tx_ret (res2 Try.results16 (rok_t rfl) (rok_t rfl)) (fun w' hS => ?_)
                  exact ⟨⟨(some ⟨g1, 0, none⟩), (m + 20), (m + 20), cB (wb h)⟩, ⟨by rw [hwb]; simp [hdr, pb]; try omega, rfl⟩, rfl, by rw [hwb]; exact hS.pick [2] _ rfl (by decide)⟩

set_option maxRecDepth 100000 in
set_option maxHeartbeats 4000000 in
theorem write_bad (h : Hd) (hw0 : wr h ≠ 0) (w : World) :
    Calls Try.prog 16 #[.agg #[.int .u8 h.s0, .int .u8 h.s1, .int .u8 h.s2, .int .u8 h.s3, .int .u8 h.d0, .int .u8 h.d1, .int .u8 h.d2, .int .u8 h.d3, (.int .i64 h.pr), (.int .i64 h.sp), (.int .i64 h.dp), (.int .i64 h.ln), (.int .i64 h.mr)]] w fun e w' => e = .returned (.tuple #[.slice none 0 0, (.int .i64 (wr h))]) ∧ St w w' [] := by
  refine calls_tr Try.func16 Try.ntmps16 rfl rfl (St.refl _) ?_
  refine tr_seq ?_
  refine tr_region ?_
  refine tl_step rfl (oj_box (fe_t rfl) (fun hb => ?_))
  refine tl_step rfl (oj_val (y_assign fe_c) ?_)
  refine tl_step rfl (oj_val (y_assign fe_c) ?_)
  refine tl_nil ?_
  refine tx_then ?_
  refine tr_seq ?_
  refine tr_seq ?_
  refine tr_region ?_
  refine tl_step rfl (oj_val (y_ldbA 0 Try.isAgg38 Try.sizeOf38 (fe_t rfl) rfl rfl rfl) ?_)
  refine tl_step rfl (oj_callv Try.call20 fe_f (fel_cons (fe_t rfl) fel_nil) (fun w' hS => wrongE h w') ?_)
  refine tl_step rfl (oj_val (y_assign (fe_t rfl)) ?_)
  refine tl_nil ?_
  refine tx_then ?_
  refine tr_seq ?_
  refine tr_region ?_
  refine tl_step rfl (oj_val (y_move (fe_t rfl)) ?_)
  refine tl_step rfl (oj_val (y_neq (fe_t rfl) fe_c) ?_)
  refine tl_nil ?_
  refine tx_then ?_
  refine tr_condp (fe_t rfl) (fun hq1 => ?_) (fun hq2 => ?_)
  · try (exfalso; omega)
    all_goals
      refine tr_seq ?_
      refine tr_region ?_
      refine tl_step rfl (oj_val (y_move (fe_t rfl)) ?_)
      refine tl_step rfl (oj_val (y_assign fe_c) ?_)
      refine tl_step rfl (oj_val (y_assign (fe_t rfl)) ?_)
      refine tl_nil ?_
      refine tx_then ?_
      refine tr_ret ?_
      refine tx_then_ret ?_
      refine tx_ret (res2 Try.results16 (rok_t rfl) (rok_t rfl)) (fun w' hS => ?_)
      exact ⟨rfl, hS.pick [] _ rfl (by decide)⟩
  · exact absurd (Decidable.not_not.1 hq2) hw0

theorem writeE (h : Hd) (ho : h.ok) (hw0 : wr h = 0) (w : World) : Calls Try.prog 16 #[.agg #[.int .u8 h.s0, .int .u8 h.s1, .int .u8 h.s2, .int .u8 h.s3, .int .u8 h.d0, .int .u8 h.d1, .int .u8 h.d2, .int .u8 h.d3, (.int .i64 h.pr), (.int .i64 h.sp), (.int .i64 h.dp), (.int .i64 h.ln), (.int .i64 h.mr)]] w fun e w' => ∃ q : Vs, (q.n = (wb h).length ∧ q.xs = cB (wb h)) ∧ e = .returned (.tuple #[.slice q.A q.n q.c, (.int .i64 0)]) ∧ St w w' [vec 5 1 (.slice q.A q.n q.c) q.n q.xs] := by
  obtain ⟨hf1, hf2, hf3⟩ := wr_fine hw0
  by_cases hp : h.pr = 6 ∨ h.pr = 17
  · exact write_p h ho hw0 hp (m := h.ln.toNat - 24) (by omega) w
  · exact write_n h ho hw0 hp (m := h.ln.toNat - 20) (by omega) w

end Go.Proofs.Ytpknjfeiiaopgaa.Head
