/- Walks: the reference EWrite. -/
import Derived.Test.YtpknjfeiiaopgaaHdW
import Derived.Test.YtpknjfeiiaopgaaFlO
namespace Go.Proofs.Ytpknjfeiiaopgaa.Head
open Go.RowKit Go.Proofs.Ytpknjfeiiaopgaa.E

set_option maxRecDepth 100000 in
theorem twoE (n : Int) (h0 : 0 ≤ n) (h1 : n ≤ 65535) (w : World) :
    Calls Try.prog 54 #[(.int .i64 n)] w fun e w' => ∃ g : Nat, True ∧ e = .returned (.slice (some ⟨g, 0, none⟩) 2 2) ∧ St w w' [vec 5 1 (.slice (some ⟨g, 0, none⟩) 2 2) 2 (cB [n / 256, n % 256])] := by
  refine calls_tr Try.func54 Try.ntmps54 rfl rfl (St.refl _) ?_
  refine tr_seq ?_
  refine tr_region ?_
  refine tl_step rfl (oj_val (y_assign fe_c) ?_)
  refine tl_nil ?_
  refine tx_then ?_
  refine tr_seq ?_
  refine tr_region ?_
  refine tl_step rfl (oj_val (y_move (fe_t rfl)) ?_)
  refine tl_step rfl (oj_val (y_quo (fe_t rfl) fe_c (by omega)) ?_)
  refine tl_step rfl (oj_val (y_convq (c := n / 256) Try.underlying3 Try.underlying5 (fe_t rfl) (IntWalk.u8_in _ (by omega))) ?_)
  refine tl_step rfl (oj_val (y_move (fe_t rfl)) ?_)
  refine tl_step rfl (oj_val (y_rem (fe_t rfl) fe_c (by omega)) ?_)
  refine tl_step rfl (oj_val (y_convq (c := n % 256) Try.underlying3 Try.underlying5 (fe_t rfl) (IntWalk.u8_in _ (by omega))) ?_)
  refine tl_step rfl (oj_lit2 Try.underlying39 Try.sizeOf5 Try.zeroValue5 (fe_t rfl) (fe_t rfl) (fun g => ?_))
  refine tl_step rfl (oj_val (y_assign (fe_t rfl)) ?_)
  refine tl_nil ?_
  refine tx_then ?_
  refine tr_ret ?_
  refine tx_ret (res1 Try.results54 (rok_t rfl)) (fun w' hS => ?_)
  exact ⟨g, trivial, rfl, hS.pick [0] _ rfl (by decide)⟩

set_option maxRecDepth 100000 in
set_option maxHeartbeats 4000000 in
theorem layE {w0 w : World} {T : List Res} {hb tb : Nat} (h : Hd) (x : Int) (hx0 : 0 ≤ x) (hx1 : x ≤ 65535) (hw0 : wr h = 0) (hS : St w0 w (blk hb [.int .u8 h.s0, .int .u8 h.s1, .int .u8 h.s2, .int .u8 h.s3, .int .u8 h.d0, .int .u8 h.d1, .int .u8 h.d2, .int .u8 h.d3, (.int .i64 h.pr), (.int .i64 h.sp), (.int .i64 h.dp), (.int .i64 h.ln), (.int .i64 h.mr)] :: blk tb [.func (.func 54) #[] #[]] :: T)) :
    Calls Try.prog 55 #[(.int .i64 x), .pointer (some ⟨hb, 0, none⟩), .pointer (some ⟨tb, 0, none⟩)] w fun e w' => ∃ q : Vs, (q.n = 20 ∧ q.xs = cB (hdr h x)) ∧ e = .returned (.slice q.A q.n q.c) ∧ St w0 w' (vec 5 1 (.slice q.A q.n q.c) q.n q.xs :: blk hb [.int .u8 h.s0, .int .u8 h.s1, .int .u8 h.s2, .int .u8 h.s3, .int .u8 h.d0, .int .u8 h.d1, .int .u8 h.d2, .int .u8 h.d3, (.int .i64 h.pr), (.int .i64 h.sp), (.int .i64 h.dp), (.int .i64 h.ln), (.int .i64 h.mr)] :: blk tb [.func (.func 54) #[] #[]] :: T) := by
  obtain ⟨hf1, hf2, hf3⟩ := wr_fine hw0
  refine calls_tr Try.func55 Try.ntmps55 rfl rfl hS ?_
  refine tr_seq ?_
  refine tr_region ?_
  refine tl_step rfl (oj_val (y_assign fe_c) ?_)
  refine tl_nil ?_
  refine tx_then ?_
  refine tr_seq ?_
  refine tr_region ?_
  refine tl_step rfl (oj_val (y_assign fe_c) ?_)
  refine tl_nil ?_
  refine tx_then ?_
  refine tr_seq ?_
  refine tr_seq ?_
  refine tr_draw (sel _ [0, 1]) (fun w h => h.sel _ rfl (by decide)) rfl ?_
  refine ta_float (i := 0) rfl (by kernel_rfl) (wants_none rfl) (yq_of (y_fieldAddr (td := 3) Try.underlying38 rfl rfl Try.sizeOf3 (o' := 12) rfl (fe_t rfl))) ?_
  refine ta_float (i := 1) rfl (by kernel_rfl) (wants_none rfl) (yq_of (y_ldb 0 Try.isAgg3 (fe_t rfl) rfl rfl)) ?_
  refine ta_float (i := 2) rfl (by kernel_rfl) (wants_none rfl) (yq_of (y_mul fe_c (fe_t rfl) (by omega))) ?_
  refine ta_float (i := 3) rfl (by kernel_rfl) (wants_none rfl) (yq_of (y_convq (c := 4 * h.mr) Try.underlying3 Try.underlying5 (fe_t rfl) (IntWalk.u8_in _ (by omega)))) ?_
  refine ta_float (i := 5) rfl (by kernel_rfl) (wants_none rfl) (yq_of (y_ldb 1 Try.isAgg106 (fe_t rfl) rfl rfl)) ?_
  refine ta_float (i := 6) rfl (by kernel_rfl) (wants_none rfl) (yq_of (y_fieldAddr (td := 3) Try.underlying38 rfl rfl Try.sizeOf3 (o' := 11) rfl (fe_t rfl))) ?_
  refine ta_float (i := 7) rfl (by kernel_rfl) (wants_none rfl) (yq_of (y_ldb 0 Try.isAgg3 (fe_t rfl) rfl rfl)) ?_
  refine ta_float (i := 9) rfl (by kernel_rfl) (wants_none rfl) (yq_of (y_fieldAddr (td := 3) Try.underlying38 rfl rfl Try.sizeOf3 (o' := 8) rfl (fe_t rfl))) ?_
  refine ta_float (i := 10) rfl (by kernel_rfl) (wants_none rfl) (yq_of (y_ldb 0 Try.isAgg3 (fe_t rfl) rfl rfl)) ?_
  refine ta_float (i := 11) rfl (by kernel_rfl) (wants_none rfl) (yq_of (y_convq (c := h.pr) Try.underlying3 Try.underlying5 (fe_t rfl) (IntWalk.u8_in _ (by omega)))) ?_
  refine ta_float (i := 13) rfl (by kernel_rfl) (wants_none rfl) (yq_of (y_ldb 1 Try.isAgg106 (fe_t rfl) rfl rfl)) ?_
  refine ta_float (i := 14) rfl (by kernel_rfl) (wants_none rfl) (yq_of (y_move (fe_t rfl))) ?_
  refine ta_float (i := 16) rfl (by kernel_rfl) (wants_none rfl) (yq_of (y_fieldAddr (td := 24) Try.underlying38 rfl rfl Try.sizeOf24 (o' := 0) rfl (fe_t rfl))) ?_
  refine ta_float (i := 17) rfl (by kernel_rfl) (wants_none rfl) (yq_of (y_sliceArr (len := 4) Try.underlying24 Try.sizeOf5 (fe_t rfl) (by decide))) ?_
  refine ta_float (i := 18) rfl (by kernel_rfl) (wants_none rfl) (yq_of (y_fieldAddr (td := 24) Try.underlying38 rfl rfl Try.sizeOf24 (o' := 4) rfl (fe_t rfl))) ?_
  refine ta_float (i := 19) rfl (by kernel_rfl) (wants_none rfl) (yq_of (y_sliceArr (len := 4) Try.underlying24 Try.sizeOf5 (fe_t rfl) (by decide))) ?_
  refine ta_float (i := 22) rfl (by kernel_rfl) (wants_none rfl) (yq_of (y_move fe_c)) ?_
  refine ta_three (i := 4) (j := 8) (m := 12) rfl rfl rfl (by kernel_rfl) (wants_none rfl) (wants_none rfl) (wants_none rfl) ?_ ?_ ?_
  · refine oj_lit2 Try.underlying39 Try.sizeOf5 Try.zeroValue5 fe_c (fe_t rfl) (fun ga => ⟨fun w h => h.pick [1, 2] _ rfl (by decide), ?_⟩)
    refine ta_two (i := 8) (j := 12) rfl rfl (by kernel_rfl) (wants_none rfl) (wants_none rfl) ?_ ?_
    · refine oj_call Try.call54 (fe_t rfl) (fel_cons (fe_t rfl) fel_nil) (fun w' hS => twoE (h.ln) (by omega) (by omega) w') (fun g1 _ => ⟨fun w h => h.pick [2, 3] _ rfl (by decide), ?_⟩)
      refine ta_two (i := 12) (j := 15) rfl rfl (by kernel_rfl) (wants_none rfl) (wants_none rfl) ?_ ?_
      · refine oj_litB6 (a := 0) (b := 0) (z := .int .u8 0) Try.underlying39 Try.sizeOf5 Try.zeroValue5 rfl fe_c fe_c fe_c fe_c fe_c (fe_t rfl) rfl rfl rfl rfl rfl rfl (fun gb => ⟨fun w h => h.pick [3, 4] _ rfl (by decide), ?_⟩)
        refine ta_one (i := 15) rfl (by kernel_rfl) (wants_none rfl) (oj_call Try.call54 (fe_t rfl) (fel_cons (fe_t rfl) fel_nil) (fun w' hS => twoE (x) (by omega) (by omega) w') (fun g2 _ => ⟨fun w h => h.pick [4, 5] _ rfl (by decide), ?_⟩))
        refine ta_one (i := 20) rfl (by kernel_rfl) (wants_none rfl) (oj_litB6 (a := 0) (b := 0) (z := .slice none 0 0) Try.underlying107 Try.sizeOf39 Try.zeroValue39 rfl (fe_t rfl) (fe_t rfl) (fe_t rfl) (fe_t rfl) (fe_t rfl) (fe_t rfl) rfl rfl rfl rfl rfl rfl (fun gp => ⟨fun w h => h.pick [5, 6] _ rfl (by decide), ?_⟩))
        refine ta_float (i := 21) rfl (by kernel_rfl) (wants_none rfl) (yq_of (y_len Try.underlying107 (fe_t rfl))) ?_
        refine ta_done (by kernel_rfl) ?_
        refine tx_then ?_
        refine tr_block ?_
        refine tr_add (r := vec 5 1 (.slice none 0 0) 0 []) vec_nil rfl ?_
        refine tr_loop2 [5, 7, 30, 31, 32, 33, 34, 35, 36, 37] (fun (k : Nat) (q : Vs) => [(30, .int .i64 (k : Int)), (5, .slice q.A q.n q.c)]) 0 (fun (k : Nat) (q : Vs) => [(0, vec 5 1 (.slice q.A q.n q.c) q.n q.xs)]) (fun (k : Nat) (q : Vs) => k ≤ 6 ∧ q.n ≤ 6 * k ∧ q.xs = cB (upTo h x k)) (fun (k : Nat) (q : Vs) => 6 - k) (0) (⟨none, 0, 0, []⟩ : Vs) (cov_cons (by first | rfl | exact v_int (by omega) | exact v_bool (by simp [*])) (cov_cons (by first | rfl | exact v_int (by omega) | exact v_bool (by simp [*])) (cov_nil))) (fun w h => h) ?_ ?_
        · try dsimp only
          exact ⟨by omega, by omega, rfl⟩
        intro k q hp
        obtain ⟨hk, hqn, hqx⟩ := hp
        refine tr_seq ?_
        refine tr_region ?_
        refine tl_step rfl (oj_val (y_lss (fe_t rfl) (fe_t rfl)) ?_)
        refine tl_nil ?_
        refine tx_then ?_
        refine tr_seq ?_
        refine tr_condp (fe_t rfl) (fun hq1 => ?_) (fun hq2 => ?_)
        · try (exfalso; omega)
          all_goals
            refine tr_skip ?_
            refine tx_then ?_
            refine tr_seq ?_
            refine tr_block ?_
            refine tr_seq ?_
            have hn6 := nsix_le (k := k) (by omega)
            refine tr_region ?_
            refine tl_step rfl (oj_val (y_index Try.underlying107 Try.sizeOf39 (fe_t rfl) (fe_t rfl) (rdl_vec 1 rfl) (rfl) (by decide) (by omega) (Nat.mul_one _)) ?_)
            refine tl_step rfl (oj_val (y_ld (v := .slice (asix (some ⟨ga, 0, none⟩) (some ⟨g1, 0, none⟩) (some ⟨gb, 0, none⟩) (some ⟨g2, 0, none⟩) (some ⟨hb, 0, none⟩) (some ⟨hb, 4, none⟩) k) (nsix k) (nsix k)) Try.isAgg39 (fe_t rfl) (rdl_vec 1 rfl) (piece6 (by omega))) ?_)
            refine tl_step rfl (oj_val (y_assign (fe_t rfl)) ?_)
            refine tl_nil ?_
            refine tx_then ?_
            refine tr_region ?_
            refine tl_step rfl (oj_val (y_move (fe_t rfl)) ?_)
            refine tl_step rfl (oj_val (y_move (fe_t rfl)) ?_)
            refine tl_step rfl (oj_appg (i := 0) (s := 1) (z := (.int .u8 0)) (bytes := 1) Try.underlying39 (by kernel_rfl) (fe_t rfl) (fe_t rfl) rfl (rdl6 (s := x) (by omega : k < 6) (rdl_vec 5 rfl) (rdl_vec 4 rfl) (rdl_vec 3 rfl) (rdl_vec 2 rfl) (rdl_blkAt (xs := []) (ys := cB [h.s0, h.s1, h.s2, h.s3]) (zs := [.int .u8 h.d0, .int .u8 h.d1, .int .u8 h.d2, .int .u8 h.d3] ++ [(.int .i64 h.pr), (.int .i64 h.sp), (.int .i64 h.dp), (.int .i64 h.ln), (.int .i64 h.mr)]) 6 rfl rfl rfl) (rdl_blkAt (xs := [.int .u8 h.s0, .int .u8 h.s1, .int .u8 h.s2, .int .u8 h.s3]) (ys := cB [h.d0, h.d1, h.d2, h.d3]) (zs := [(.int .i64 h.pr), (.int .i64 h.sp), (.int .i64 h.dp), (.int .i64 h.ln), (.int .i64 h.mr)]) 6 rfl rfl rfl)) (pcs_len (by omega)) (by decide) oneB ⟨by omega, by decide⟩ (fun Aa1 ca1 hca1 => ?_))
            refine tl_step rfl (oj_val (y_assign (fe_t rfl)) ?_)
            refine tl_nil ?_
            refine tx_in ?_
            refine tx_then ?_
            refine tr_region ?_
            refine tl_step rfl (oj_val (y_inc (fe_t rfl) fe_c (by omega)) ?_)
            refine tl_step rfl (oj_val (y_move (fe_t rfl)) ?_)
            refine tl_nil ?_
            apply tx_back2 (k + 1) ((⟨_, _, _, _⟩ : Vs))
            · exact (cov_cons (by first | rfl | exact v_int (by omega) | exact v_bool (by simp [*])) (cov_cons (by first | rfl | exact v_int (by omega) | exact v_bool (by simp [*])) (cov_nil)))
            · repeat (first | exact over_nil | refine over_put rfl ?_ | refine over_drop rfl ?_)
            · exact fun w h => pickT (l := [_, _, _, _, _, _, _, _]) h [0, 1, 2, 3, 4, 5, 6, 7] rfl (by decide)
            · refine ⟨⟨by omega, by dsimp only; omega, ?_⟩, by omega⟩
              dsimp only
              rw [hqx]
              exact upTo_next (by omega)
        · try (exfalso; omega)
          all_goals
            refine tr_exit ?_
            refine tx_then_exit ?_
            refine tx_then_exit ?_
            refine tx_in_exit ?_
            refine tx_then ?_
            refine tr_seq ?_
            refine tr_region ?_
            refine tl_step rfl (oj_val (y_move (fe_t rfl)) ?_)
            refine tl_step rfl (oj_val (y_assign (fe_t rfl)) ?_)
            refine tl_nil ?_
            refine tx_then ?_
            refine tr_ret ?_
            refine tx_ret (res1 Try.results55 (rok_t rfl)) (fun w' hS => ?_)
            obtain rfl : k = 6 := by omega
            have hl := (hS.holds 0 _ rfl).1
            have hqn2 : q.n = 20 := by rw [hqx, upTo_all] at hl; simp [hdr, cB] at hl; omega
            have h1 := pickT (l := [_, _, _, _, _, _, _, _]) hS [0, 6, 7] rfl (by decide)
            exact ⟨q, ⟨hqn2, by rw [hqx, upTo_all]⟩, rfl, h1⟩
      · refine oj_call Try.call54 (fe_t rfl) (fel_cons (fe_t rfl) fel_nil) (fun w' hS => twoE (x) (by omega) (by omega) w') (fun g2 _ => ⟨fun w h => h.pick [3, 4] _ rfl (by decide), ?_⟩)
        refine ta_one (i := 12) rfl (by kernel_rfl) (wants_none rfl) (oj_litB6 (a := 0) (b := 0) (z := .int .u8 0) Try.underlying39 Try.sizeOf5 Try.zeroValue5 rfl fe_c fe_c fe_c fe_c fe_c (fe_t rfl) rfl rfl rfl rfl rfl rfl (fun gb => ⟨fun w h => h.pick [4, 5] _ rfl (by decide), ?_⟩))
        refine ta_one (i := 20) rfl (by kernel_rfl) (wants_none rfl) (oj_litB6 (a := 0) (b := 0) (z := .slice none 0 0) Try.underlying107 Try.sizeOf39 Try.zeroValue39 rfl (fe_t rfl) (fe_t rfl) (fe_t rfl) (fe_t rfl) (fe_t rfl) (fe_t rfl) rfl rfl rfl rfl rfl rfl (fun gp => ⟨fun w h => h.pick [5, 6] _ rfl (by decide), ?_⟩))
        refine ta_float (i := 21) rfl (by kernel_rfl) (wants_none rfl) (yq_of (y_len Try.underlying107 (fe_t rfl))) ?_
        refine ta_done (by kernel_rfl) ?_
        refine tx_then ?_
        refine tr_block ?_
        refine tr_add (r := vec 5 1 (.slice none 0 0) 0 []) vec_nil rfl ?_
        refine tr_loop2 [5, 7, 30, 31, 32, 33, 34, 35, 36, 37] (fun (k : Nat) (q : Vs) => [(30, .int .i64 (k : Int)), (5, .slice q.A q.n q.c)]) 0 (fun (k : Nat) (q : Vs) => [(0, vec 5 1 (.slice q.A q.n q.c) q.n q.xs)]) (fun (k : Nat) (q : Vs) => k ≤ 6 ∧ q.n ≤ 6 * k ∧ q.xs = cB (upTo h x k)) (fun (k : Nat) (q : Vs) => 6 - k) (0) (⟨none, 0, 0, []⟩ : Vs) (cov_cons (by first | rfl | exact v_int (by omega) | exact v_bool (by simp [*])) (cov_cons (by first | rfl | exact v_int (by omega) | exact v_bool (by simp [*])) (cov_nil))) (fun w h => h) ?_ ?_
        · try dsimp only
          exact ⟨by omega, by omega, rfl⟩
        intro k q hp
        obtain ⟨hk, hqn, hqx⟩ := hp
        refine tr_seq ?_
        refine tr_region ?_
        refine tl_step rfl (oj_val (y_lss (fe_t rfl) (fe_t rfl)) ?_)
        refine tl_nil ?_
        refine tx_then ?_
        refine tr_seq ?_
        refine tr_condp (fe_t rfl) (fun hq3 => ?_) (fun hq4 => ?_)
        · try (exfalso; omega)
          all_goals
            refine tr_skip ?_
            refine tx_then ?_
            refine tr_seq ?_
            refine tr_block ?_
            refine tr_seq ?_
            have hn6 := nsix_le (k := k) (by omega)
            refine tr_region ?_
            refine tl_step rfl (oj_val (y_index Try.underlying107 Try.sizeOf39 (fe_t rfl) (fe_t rfl) (rdl_vec 1 rfl) (rfl) (by decide) (by omega) (Nat.mul_one _)) ?_)
            refine tl_step rfl (oj_val (y_ld (v := .slice (asix (some ⟨ga, 0, none⟩) (some ⟨g1, 0, none⟩) (some ⟨gb, 0, none⟩) (some ⟨g2, 0, none⟩) (some ⟨hb, 0, none⟩) (some ⟨hb, 4, none⟩) k) (nsix k) (nsix k)) Try.isAgg39 (fe_t rfl) (rdl_vec 1 rfl) (piece6 (by omega))) ?_)
            refine tl_step rfl (oj_val (y_assign (fe_t rfl)) ?_)
            refine tl_nil ?_
            refine tx_then ?_
            refine tr_region ?_
            refine tl_step rfl (oj_val (y_move (fe_t rfl)) ?_)
            refine tl_step rfl (oj_val (y_move (fe_t rfl)) ?_)
            refine tl_step rfl (oj_appg (i := 0) (s := 1) (z := (.int .u8 0)) (bytes := 1) Try.underlying39 (by kernel_rfl) (fe_t rfl) (fe_t rfl) rfl (rdl6 (s := x) (by omega : k < 6) (rdl_vec 5 rfl) (rdl_vec 4 rfl) (rdl_vec 2 rfl) (rdl_vec 3 rfl) (rdl_blkAt (xs := []) (ys := cB [h.s0, h.s1, h.s2, h.s3]) (zs := [.int .u8 h.d0, .int .u8 h.d1, .int .u8 h.d2, .int .u8 h.d3] ++ [(.int .i64 h.pr), (.int .i64 h.sp), (.int .i64 h.dp), (.int .i64 h.ln), (.int .i64 h.mr)]) 6 rfl rfl rfl) (rdl_blkAt (xs := [.int .u8 h.s0, .int .u8 h.s1, .int .u8 h.s2, .int .u8 h.s3]) (ys := cB [h.d0, h.d1, h.d2, h.d3]) (zs := [(.int .i64 h.pr), (.int .i64 h.sp), (.int .i64 h.dp), (.int .i64 h.ln), (.int .i64 h.mr)]) 6 rfl rfl rfl)) (pcs_len (by omega)) (by decide) oneB ⟨by omega, by decide⟩ (fun Aa2 ca2 hca2 => ?_))
            refine tl_step rfl (oj_val (y_assign (fe_t rfl)) ?_)
            refine tl_nil ?_
            refine tx_in ?_
            refine tx_then ?_
            refine tr_region ?_
            refine tl_step rfl (oj_val (y_inc (fe_t rfl) fe_c (by omega)) ?_)
            refine tl_step rfl (oj_val (y_move (fe_t rfl)) ?_)
            refine tl_nil ?_
            apply tx_back2 (k + 1) ((⟨_, _, _, _⟩ : Vs))
            · exact (cov_cons (by first | rfl | exact v_int (by omega) | exact v_bool (by simp [*])) (cov_cons (by first | rfl | exact v_int (by omega) | exact v_bool (by simp [*])) (cov_nil)))
            · repeat (first | exact over_nil | refine over_put rfl ?_ | refine over_drop rfl ?_)
            · exact fun w h => pickT (l := [_, _, _, _, _, _, _, _]) h [0, 1, 2, 3, 4, 5, 6, 7] rfl (by decide)
            · refine ⟨⟨by omega, by dsimp only; omega, ?_⟩, by omega⟩
              dsimp only
              rw [hqx]
              exact upTo_next (by omega)
        · try (exfalso; omega)
          all_goals
            refine tr_exit ?_
            refine tx_then_exit ?_
            refine tx_then_exit ?_
            refine tx_in_exit ?_
            refine tx_then ?_
            refine tr_seq ?_
            refine tr_region ?_
            refine tl_step rfl (oj_val (y_move (fe_t rfl)) ?_)
            refine tl_step rfl (oj_val (y_assign (fe_t rfl)) ?_)
            refine tl_nil ?_
            refine tx_then ?_
            refine tr_ret ?_
            refine tx_ret (res1 Try.results55 (rok_t rfl)) (fun w' hS => ?_)
            obtain rfl : k = 6 := by omega
            have hl := (hS.holds 0 _ rfl).1
            have hqn2 : q.n = 20 := by rw [hqx, upTo_all] at hl; simp [hdr, cB] at hl; omega
            have h1 := pickT (l := [_, _, _, _, _, _, _, _]) hS [0, 6, 7] rfl (by decide)
            exact ⟨q, ⟨hqn2, by rw [hqx, upTo_all]⟩, rfl, h1⟩
    · refine oj_litB6 (a := 0) (b := 0) (z := .int .u8 0) Try.underlying39 Try.sizeOf5 Try.zeroValue5 rfl fe_c fe_c fe_c fe_c fe_c (fe_t rfl) rfl rfl rfl rfl rfl rfl (fun gb => ⟨fun w h => h.pick [2, 3] _ rfl (by decide), ?_⟩)
      refine ta_one (i := 8) rfl (by kernel_rfl) (wants_none rfl) (oj_call Try.call54 (fe_t rfl) (fel_cons (fe_t rfl) fel_nil) (fun w' hS => twoE (h.ln) (by omega) (by omega) w') (fun g1 _ => ⟨fun w h => h.pick [3, 4] _ rfl (by decide), ?_⟩))
      refine ta_one (i := 15) rfl (by kernel_rfl) (wants_none rfl) (oj_call Try.call54 (fe_t rfl) (fel_cons (fe_t rfl) fel_nil) (fun w' hS => twoE (x) (by omega) (by omega) w') (fun g2 _ => ⟨fun w h => h.pick [4, 5] _ rfl (by decide), ?_⟩))
      refine ta_one (i := 20) rfl (by kernel_rfl) (wants_none rfl) (oj_litB6 (a := 0) (b := 0) (z := .slice none 0 0) Try.underlying107 Try.sizeOf39 Try.zeroValue39 rfl (fe_t rfl) (fe_t rfl) (fe_t rfl) (fe_t rfl) (fe_t rfl) (fe_t rfl) rfl rfl rfl rfl rfl rfl (fun gp => ⟨fun w h => h.pick [5, 6] _ rfl (by decide), ?_⟩))
      refine ta_float (i := 21) rfl (by kernel_rfl) (wants_none rfl) (yq_of (y_len Try.underlying107 (fe_t rfl))) ?_
      refine ta_done (by kernel_rfl) ?_
      refine tx_then ?_
      refine tr_block ?_
      refine tr_add (r := vec 5 1 (.slice none 0 0) 0 []) vec_nil rfl ?_
      refine tr_loop2 [5, 7, 30, 31, 32, 33, 34, 35, 36, 37] (fun (k : Nat) (q : Vs) => [(30, .int .i64 (k : Int)), (5, .slice q.A q.n q.c)]) 0 (fun (k : Nat) (q : Vs) => [(0, vec 5 1 (.slice q.A q.n q.c) q.n q.xs)]) (fun (k : Nat) (q : Vs) => k ≤ 6 ∧ q.n ≤ 6 * k ∧ q.xs = cB (upTo h x k)) (fun (k : Nat) (q : Vs) => 6 - k) (0) (⟨none, 0, 0, []⟩ : Vs) (cov_cons (by first | rfl | exact v_int (by omega) | exact v_bool (by simp [*])) (cov_cons (by first | rfl | exact v_int (by omega) | exact v_bool (by simp [*])) (cov_nil))) (fun w h => h) ?_ ?_
      · try dsimp only
        exact ⟨by omega, by omega, rfl⟩
      intro k q hp
      obtain ⟨hk, hqn, hqx⟩ := hp
      refine tr_seq ?_
      refine tr_region ?_
      refine tl_step rfl (oj_val (y_lss (fe_t rfl) (fe_t rfl)) ?_)
      refine tl_nil ?_
      refine tx_then ?_
      refine tr_seq ?_
      refine tr_condp (fe_t rfl) (fun hq5 => ?_) (fun hq6 => ?_)
      · try (exfalso; omega)
        all_goals
          refine tr_skip ?_
          refine tx_then ?_
          refine tr_seq ?_
          refine tr_block ?_
          refine tr_seq ?_
          have hn6 := nsix_le (k := k) (by omega)
          refine tr_region ?_
          refine tl_step rfl (oj_val (y_index Try.underlying107 Try.sizeOf39 (fe_t rfl) (fe_t rfl) (rdl_vec 1 rfl) (rfl) (by decide) (by omega) (Nat.mul_one _)) ?_)
          refine tl_step rfl (oj_val (y_ld (v := .slice (asix (some ⟨ga, 0, none⟩) (some ⟨g1, 0, none⟩) (some ⟨gb, 0, none⟩) (some ⟨g2, 0, none⟩) (some ⟨hb, 0, none⟩) (some ⟨hb, 4, none⟩) k) (nsix k) (nsix k)) Try.isAgg39 (fe_t rfl) (rdl_vec 1 rfl) (piece6 (by omega))) ?_)
          refine tl_step rfl (oj_val (y_assign (fe_t rfl)) ?_)
          refine tl_nil ?_
          refine tx_then ?_
          refine tr_region ?_
          refine tl_step rfl (oj_val (y_move (fe_t rfl)) ?_)
          refine tl_step rfl (oj_val (y_move (fe_t rfl)) ?_)
          refine tl_step rfl (oj_appg (i := 0) (s := 1) (z := (.int .u8 0)) (bytes := 1) Try.underlying39 (by kernel_rfl) (fe_t rfl) (fe_t rfl) rfl (rdl6 (s := x) (by omega : k < 6) (rdl_vec 5 rfl) (rdl_vec 3 rfl) (rdl_vec 4 rfl) (rdl_vec 2 rfl) (rdl_blkAt (xs := []) (ys := cB [h.s0, h.s1, h.s2, h.s3]) (zs := [.int .u8 h.d0, .int .u8 h.d1, .int .u8 h.d2, .int .u8 h.d3] ++ [(.int .i64 h.pr), (.int .i64 h.sp), (.int .i64 h.dp), (.int .i64 h.ln), (.int .i64 h.mr)]) 6 rfl rfl rfl) (rdl_blkAt (xs := [.int .u8 h.s0, .int .u8 h.s1, .int .u8 h.s2, .int .u8 h.s3]) (ys := cB [h.d0, h.d1, h.d2, h.d3]) (zs := [(.int .i64 h.pr), (.int .i64 h.sp), (.int .i64 h.dp), (.int .i64 h.ln), (.int .i64 h.mr)]) 6 rfl rfl rfl)) (pcs_len (by omega)) (by decide) oneB ⟨by omega, by decide⟩ (fun Aa3 ca3 hca3 => ?_))
          refine tl_step rfl (oj_val (y_assign (fe_t rfl)) ?_)
          refine tl_nil ?_
          refine tx_in ?_
          refine tx_then ?_
          refine tr_region ?_
          refine tl_step rfl (oj_val (y_inc (fe_t rfl) fe_c (by omega)) ?_)
          refine tl_step rfl (oj_val (y_move (fe_t rfl)) ?_)
          refine tl_nil ?_
          apply tx_back2 (k + 1) ((⟨_, _, _, _⟩ : Vs))
          · exact (cov_cons (by first | rfl | exact v_int (by omega) | exact v_bool (by simp [*])) (cov_cons (by first | rfl | exact v_int (by omega) | exact v_bool (by simp [*])) (cov_nil)))
          · repeat (first | exact over_nil | refine over_put rfl ?_ | refine over_drop rfl ?_)
          · exact fun w h => pickT (l := [_, _, _, _, _, _, _, _]) h [0, 1, 2, 3, 4, 5, 6, 7] rfl (by decide)
          · refine ⟨⟨by omega, by dsimp only; omega, ?_⟩, by omega⟩
            dsimp only
            rw [hqx]
            exact upTo_next (by omega)
      · try (exfalso; omega)
        all_goals
          refine tr_exit ?_
          refine tx_then_exit ?_
          refine tx_then_exit ?_
          refine tx_in_exit ?_
          refine tx_then ?_
          refine tr_seq ?_
          refine tr_region ?_
          refine tl_step rfl (oj_val (y_move (fe_t rfl)) ?_)
          refine tl_step rfl (oj_val (y_assign (fe_t rfl)) ?_)
          refine tl_nil ?_
          refine tx_then ?_
          refine tr_ret ?_
          refine tx_ret (res1 Try.results55 (rok_t rfl)) (fun w' hS => ?_)
          obtain rfl : k = 6 := by omega
          have hl := (hS.holds 0 _ rfl).1
          have hqn2 : q.n = 20 := by rw [hqx, upTo_all] at hl; simp [hdr, cB] at hl; omega
          have h1 := pickT (l := [_, _, _, _, _, _, _, _]) hS [0, 6, 7] rfl (by decide)
          exact ⟨q, ⟨hqn2, by rw [hqx, upTo_all]⟩, rfl, h1⟩
  · refine oj_call Try.call54 (fe_t rfl) (fel_cons (fe_t rfl) fel_nil) (fun w' hS => twoE (h.ln) (by omega) (by omega) w') (fun g1 _ => ⟨fun w h => h.pick [1, 2] _ rfl (by decide), ?_⟩)
    refine ta_three (i := 4) (j := 12) (m := 15) rfl rfl rfl (by kernel_rfl) (wants_none rfl) (wants_none rfl) (wants_none rfl) ?_ ?_ ?_
    · refine oj_lit2 Try.underlying39 Try.sizeOf5 Try.zeroValue5 fe_c (fe_t rfl) (fun ga => ⟨fun w h => h.pick [2, 3] _ rfl (by decide), ?_⟩)
      refine ta_two (i := 12) (j := 15) rfl rfl (by kernel_rfl) (wants_none rfl) (wants_none rfl) ?_ ?_
      · refine oj_litB6 (a := 0) (b := 0) (z := .int .u8 0) Try.underlying39 Try.sizeOf5 Try.zeroValue5 rfl fe_c fe_c fe_c fe_c fe_c (fe_t rfl) rfl rfl rfl rfl rfl rfl (fun gb => ⟨fun w h => h.pick [3, 4] _ rfl (by decide), ?_⟩)
        refine ta_one (i := 15) rfl (by kernel_rfl) (wants_none rfl) (oj_call Try.call54 (fe_t rfl) (fel_cons (fe_t rfl) fel_nil) (fun w' hS => twoE (x) (by omega) (by omega) w') (fun g2 _ => ⟨fun w h => h.pick [4, 5] _ rfl (by decide), ?_⟩))
        refine ta_one (i := 20) rfl (by kernel_rfl) (wants_none rfl) (oj_litB6 (a := 0) (b := 0) (z := .slice none 0 0) Try.underlying107 Try.sizeOf39 Try.zeroValue39 rfl (fe_t rfl) (fe_t rfl) (fe_t rfl) (fe_t rfl) (fe_t rfl) (fe_t rfl) rfl rfl rfl rfl rfl rfl (fun gp => ⟨fun w h => h.pick [5, 6] _ rfl (by decide), ?_⟩))
        refine ta_float (i := 21) rfl (by kernel_rfl) (wants_none rfl) (yq_of (y_len Try.underlying107 (fe_t rfl))) ?_
        refine ta_done (by kernel_rfl) ?_
        refine tx_then ?_
        refine tr_block ?_
        refine tr_add (r := vec 5 1 (.slice none 0 0) 0 []) vec_nil rfl ?_
        refine tr_loop2 [5, 7, 30, 31, 32, 33, 34, 35, 36, 37] (fun (k : Nat) (q : Vs) => [(30, .int .i64 (k : Int)), (5, .slice q.A q.n q.c)]) 0 (fun (k : Nat) (q : Vs) => [(0, vec 5 1 (.slice q.A q.n q.c) q.n q.xs)]) (fun (k : Nat) (q : Vs) => k ≤ 6 ∧ q.n ≤ 6 * k ∧ q.xs = cB (upTo h x k)) (fun (k : Nat) (q : Vs) => 6 - k) (0) (⟨none, 0, 0, []⟩ : Vs) (cov_cons (by first | rfl | exact v_int (by omega) | exact v_bool (by simp [*])) (cov_cons (by first | rfl | exact v_int (by omega) | exact v_bool (by simp [*])) (cov_nil))) (fun w h => h) ?_ ?_
        · try dsimp only
          exact ⟨by omega, by omega, rfl⟩
        intro k q hp
        obtain ⟨hk, hqn, hqx⟩ := hp
        refine tr_seq ?_
        refine tr_region ?_
        refine tl_step rfl (oj_val (y_lss (fe_t rfl) (fe_t rfl)) ?_)
        refine tl_nil ?_
        refine tx_then ?_
        refine tr_seq ?_
        refine tr_condp (fe_t rfl) (fun hq7 => ?_) (fun hq8 => ?_)
        · try (exfalso; omega)
          all_goals
            refine tr_skip ?_
            refine tx_then ?_
            refine tr_seq ?_
            refine tr_block ?_
            refine tr_seq ?_
            have hn6 := nsix_le (k := k) (by omega)
            refine tr_region ?_
            refine tl_step rfl (oj_val (y_index Try.underlying107 Try.sizeOf39 (fe_t rfl) (fe_t rfl) (rdl_vec 1 rfl) (rfl) (by decide) (by omega) (Nat.mul_one _)) ?_)
            refine tl_step rfl (oj_val (y_ld (v := .slice (asix (some ⟨ga, 0, none⟩) (some ⟨g1, 0, none⟩) (some ⟨gb, 0, none⟩) (some ⟨g2, 0, none⟩) (some ⟨hb, 0, none⟩) (some ⟨hb, 4, none⟩) k) (nsix k) (nsix k)) Try.isAgg39 (fe_t rfl) (rdl_vec 1 rfl) (piece6 (by omega))) ?_)
            refine tl_step rfl (oj_val (y_assign (fe_t rfl)) ?_)
            refine tl_nil ?_
            refine tx_then ?_
            refine tr_region ?_
            refine tl_step rfl (oj_val (y_move (fe_t rfl)) ?_)
            refine tl_step rfl (oj_val (y_move (fe_t rfl)) ?_)
            refine tl_step rfl (oj_appg (i := 0) (s := 1) (z := (.int .u8 0)) (bytes := 1) Try.underlying39 (by kernel_rfl) (fe_t rfl) (fe_t rfl) rfl (rdl6 (s := x) (by omega : k < 6) (rdl_vec 4 rfl) (rdl_vec 5 rfl) (rdl_vec 3 rfl) (rdl_vec 2 rfl) (rdl_blkAt (xs := []) (ys := cB [h.s0, h.s1, h.s2, h.s3]) (zs := [.int .u8 h.d0, .int .u8 h.d1, .int .u8 h.d2, .int .u8 h.d3] ++ [(.int .i64 h.pr), (.int .i64 h.sp), (.int .i64 h.dp), (.int .i64 h.ln), (.int .i64 h.mr)]) 6 rfl rfl rfl) (rdl_blkAt (xs := [.int .u8 h.s0, .int .u8 h.s1, .int .u8 h.s2, .int .u8 h.s3]) (ys := cB [h.d0, h.d1, h.d2, h.d3]) (zs := [(.int .i64 h.pr), (.int .i64 h.sp), (.int .i64 h.dp), (.int .i64 h.ln), (.int .i64 h.mr)]) 6 rfl rfl rfl)) (pcs_len (by omega)) (by decide) oneB ⟨by omega, by decide⟩ (fun Aa4 ca4 hca4 => ?_))
            refine tl_step rfl (oj_val (y_assign (fe_t rfl)) ?_)
            refine tl_nil ?_
            refine tx_in ?_
            refine tx_then ?_
            refine tr_region ?_
            refine tl_step rfl (oj_val (y_inc (fe_t rfl) fe_c (by omega)) ?_)
            refine tl_step rfl (oj_val (y_move (fe_t rfl)) ?_)
            refine tl_nil ?_
            apply tx_back2 (k + 1) ((⟨_, _, _, _⟩ : Vs))
            · exact (cov_cons (by first | rfl | exact v_int (by omega) | exact v_bool (by simp [*])) (cov_cons (by first | rfl | exact v_int (by omega) | exact v_bool (by simp [*])) (cov_nil)))
            · repeat (first | exact over_nil | refine over_put rfl ?_ | refine over_drop rfl ?_)
            · exact fun w h => pickT (l := [_, _, _, _, _, _, _, _]) h [0, 1, 2, 3, 4, 5, 6, 7] rfl (by decide)
            · refine ⟨⟨by omega, by dsimp only; omega, ?_⟩, by omega⟩
              dsimp only
              rw [hqx]
              exact upTo_next (by omega)
        · try (exfalso; omega)
          all_goals
            refine tr_exit ?_
            refine tx_then_exit ?_
            refine tx_then_exit ?_
            refine tx_in_exit ?_
            refine tx_then ?_
            refine tr_seq ?_
            refine tr_region ?_
            refine tl_step rfl (oj_val (y_move (fe_t rfl)) ?_)
            refine tl_step rfl (oj_val (y_assign (fe_t rfl)) ?_)
            refine tl_nil ?_
            refine tx_then ?_
            refine tr_ret ?_
            refine tx_ret (res1 Try.results55 (rok_t rfl)) (fun w' hS => ?_)
            obtain rfl : k = 6 := by omega
            have hl := (hS.holds 0 _ rfl).1
            have hqn2 : q.n = 20 := by rw [hqx, upTo_all] at hl; simp [hdr, cB] at hl; omega
            have h1 := pickT (l := [_, _, _, _, _, _, _, _]) hS [0, 6, 7] rfl (by decide)
            exact ⟨q, ⟨hqn2, by rw [hqx, upTo_all]⟩, rfl, h1⟩
      · refine oj_call Try.call54 (fe_t rfl) (fel_cons (fe_t rfl) fel_nil) (fun w' hS => twoE (x) (by omega) (by omega) w') (fun g2 _ => ⟨fun w h => h.pick [3, 4] _ rfl (by decide), ?_⟩)
        refine ta_one (i := 12) rfl (by kernel_rfl) (wants_none rfl) (oj_litB6 (a := 0) (b := 0) (z := .int .u8 0) Try.underlying39 Try.sizeOf5 Try.zeroValue5 rfl fe_c fe_c fe_c fe_c fe_c (fe_t rfl) rfl rfl rfl rfl rfl rfl (fun gb => ⟨fun w h => h.pick [4, 5] _ rfl (by decide), ?_⟩))
        refine ta_one (i := 20) rfl (by kernel_rfl) (wants_none rfl) (oj_litB6 (a := 0) (b := 0) (z := .slice none 0 0) Try.underlying107 Try.sizeOf39 Try.zeroValue39 rfl (fe_t rfl) (fe_t rfl) (fe_t rfl) (fe_t rfl) (fe_t rfl) (fe_t rfl) rfl rfl rfl rfl rfl rfl (fun gp => ⟨fun w h => h.pick [5, 6] _ rfl (by decide), ?_⟩))
        refine ta_float (i := 21) rfl (by kernel_rfl) (wants_none rfl) (yq_of (y_len Try.underlying107 (fe_t rfl))) ?_
        refine ta_done (by kernel_rfl) ?_
        refine tx_then ?_
        refine tr_block ?_
        refine tr_add (r := vec 5 1 (.slice none 0 0) 0 []) vec_nil rfl ?_
        refine tr_loop2 [5, 7, 30, 31, 32, 33, 34, 35, 36, 37] (fun (k : Nat) (q : Vs) => [(30, .int .i64 (k : Int)), (5, .slice q.A q.n q.c)]) 0 (fun (k : Nat) (q : Vs) => [(0, vec 5 1 (.slice q.A q.n q.c) q.n q.xs)]) (fun (k : Nat) (q : Vs) => k ≤ 6 ∧ q.n ≤ 6 * k ∧ q.xs = cB (upTo h x k)) (fun (k : Nat) (q : Vs) => 6 - k) (0) (⟨none, 0, 0, []⟩ : Vs) (cov_cons (by first | rfl | exact v_int (by omega) | exact v_bool (by simp [*])) (cov_cons (by first | rfl | exact v_int (by omega) | exact v_bool (by simp [*])) (cov_nil))) (fun w h => h) ?_ ?_
        · try dsimp only
          exact ⟨by omega, by omega, rfl⟩
        intro k q hp
        obtain ⟨hk, hqn, hqx⟩ := hp
        refine tr_seq ?_
        refine tr_region ?_
        refine tl_step rfl (oj_val (y_lss (fe_t rfl) (fe_t rfl)) ?_)
        refine tl_nil ?_
        refine tx_then ?_
        refine tr_seq ?_
        refine tr_condp (fe_t rfl) (fun hq9 => ?_) (fun hq10 => ?_)
        · try (exfalso; omega)
          all_goals
            refine tr_skip ?_
            refine tx_then ?_
            refine tr_seq ?_
            refine tr_block ?_
            refine tr_seq ?_
            have hn6 := nsix_le (k := k) (by omega)
            refine tr_region ?_
            refine tl_step rfl (oj_val (y_index Try.underlying107 Try.sizeOf39 (fe_t rfl) (fe_t rfl) (rdl_vec 1 rfl) (rfl) (by decide) (by omega) (Nat.mul_one _)) ?_)
            refine tl_step rfl (oj_val (y_ld (v := .slice (asix (some ⟨ga, 0, none⟩) (some ⟨g1, 0, none⟩) (some ⟨gb, 0, none⟩) (some ⟨g2, 0, none⟩) (some ⟨hb, 0, none⟩) (some ⟨hb, 4, none⟩) k) (nsix k) (nsix k)) Try.isAgg39 (fe_t rfl) (rdl_vec 1 rfl) (piece6 (by omega))) ?_)
            refine tl_step rfl (oj_val (y_assign (fe_t rfl)) ?_)
            refine tl_nil ?_
            refine tx_then ?_
            refine tr_region ?_
            refine tl_step rfl (oj_val (y_move (fe_t rfl)) ?_)
            refine tl_step rfl (oj_val (y_move (fe_t rfl)) ?_)
            refine tl_step rfl (oj_appg (i := 0) (s := 1) (z := (.int .u8 0)) (bytes := 1) Try.underlying39 (by kernel_rfl) (fe_t rfl) (fe_t rfl) rfl (rdl6 (s := x) (by omega : k < 6) (rdl_vec 4 rfl) (rdl_vec 5 rfl) (rdl_vec 2 rfl) (rdl_vec 3 rfl) (rdl_blkAt (xs := []) (ys := cB [h.s0, h.s1, h.s2, h.s3]) (zs := [.int .u8 h.d0, .int .u8 h.d1, .int .u8 h.d2, .int .u8 h.d3] ++ [(.int .i64 h.pr), (.int .i64 h.sp), (.int .i64 h.dp), (.int .i64 h.ln), (.int .i64 h.mr)]) 6 rfl rfl rfl) (rdl_blkAt (xs := [.int .u8 h.s0, .int .u8 h.s1, .int .u8 h.s2, .int .u8 h.s3]) (ys := cB [h.d0, h.d1, h.d2, h.d3]) (zs := [(.int .i64 h.pr), (.int .i64 h.sp), (.int .i64 h.dp), (.int .i64 h.ln), (.int .i64 h.mr)]) 6 rfl rfl rfl)) (pcs_len (by omega)) (by decide) oneB ⟨by omega, by decide⟩ (fun Aa5 ca5 hca5 => ?_))
            refine tl_step rfl (oj_val (y_assign (fe_t rfl)) ?_)
            refine tl_nil ?_
            refine tx_in ?_
            refine tx_then ?_
            refine tr_region ?_
            refine tl_step rfl (oj_val (y_inc (fe_t rfl) fe_c (by omega)) ?_)
            refine tl_step rfl (oj_val (y_move (fe_t rfl)) ?_)
            refine tl_nil ?_
            apply tx_back2 (k + 1) ((⟨_, _, _, _⟩ : Vs))
            · exact (cov_cons (by first | rfl | exact v_int (by omega) | exact v_bool (by simp [*])) (cov_cons (by first | rfl | exact v_int (by omega) | exact v_bool (by simp [*])) (cov_nil)))
            · repeat (first | exact over_nil | refine over_put rfl ?_ | refine over_drop rfl ?_)
            · exact fun w h => pickT (l := [_, _, _, _, _, _, _, _]) h [0, 1, 2, 3, 4, 5, 6, 7] rfl (by decide)
            · refine ⟨⟨by omega, by dsimp only; omega, ?_⟩, by omega⟩
              dsimp only
              rw [hqx]
              exact upTo_next (by omega)
        · try (exfalso; omega)
          all_goals
            refine tr_exit ?_
            refine tx_then_exit ?_
            refine tx_then_exit ?_
            refine tx_in_exit ?_
            refine tx_then ?_
            refine tr_seq ?_
            refine tr_region ?_
            refine tl_step rfl (oj_val (y_move (fe_t rfl)) ?_)
            refine tl_step rfl (oj_val (y_assign (fe_t rfl)) ?_)
            refine tl_nil ?_
            refine tx_then ?_
            refine tr_ret ?_
            refine tx_ret (res1 Try.results55 (rok_t rfl)) (fun w' hS => ?_)
            obtain rfl : k = 6 := by omega
            have hl := (hS.holds 0 _ rfl).1
            have hqn2 : q.n = 20 := by rw [hqx, upTo_all] at hl; simp [hdr, cB] at hl; omega
            have h1 := pickT (l := [_, _, _, _, _, _, _, _]) hS [0, 6, 7] rfl (by decide)
            exact ⟨q, ⟨hqn2, by rw [hqx, upTo_all]⟩, rfl, h1⟩
    · refine oj_litB6 (a := 0) (b := 0) (z := .int .u8 0) Try.underlying39 Try.sizeOf5 Try.zeroValue5 rfl fe_c fe_c fe_c fe_c fe_c (fe_t rfl) rfl rfl rfl rfl rfl rfl (fun gb => ⟨fun w h => h.pick [2, 3] _ rfl (by decide), ?_⟩)
      refine ta_two (i := 4) (j := 15) rfl rfl (by kernel_rfl) (wants_none rfl) (wants_none rfl) ?_ ?_
      · refine oj_lit2 Try.underlying39 Try.sizeOf5 Try.zeroValue5 fe_c (fe_t rfl) (fun ga => ⟨fun w h => h.pick [3, 4] _ rfl (by decide), ?_⟩)
        refine ta_one (i := 15) rfl (by kernel_rfl) (wants_none rfl) (oj_call Try.call54 (fe_t rfl) (fel_cons (fe_t rfl) fel_nil) (fun w' hS => twoE (x) (by omega) (by omega) w') (fun g2 _ => ⟨fun w h => h.pick [4, 5] _ rfl (by decide), ?_⟩))
        refine ta_one (i := 20) rfl (by kernel_rfl) (wants_none rfl) (oj_litB6 (a := 0) (b := 0) (z := .slice none 0 0) Try.underlying107 Try.sizeOf39 Try.zeroValue39 rfl (fe_t rfl) (fe_t rfl) (fe_t rfl) (fe_t rfl) (fe_t rfl) (fe_t rfl) rfl rfl rfl rfl rfl rfl (fun gp => ⟨fun w h => h.pick [5, 6] _ rfl (by decide), ?_⟩))
        refine ta_float (i := 21) rfl (by kernel_rfl) (wants_none rfl) (yq_of (y_len Try.underlying107 (fe_t rfl))) ?_
        refine ta_done (by kernel_rfl) ?_
        refine tx_then ?_
        refine tr_block ?_
        refine tr_add (r := vec 5 1 (.slice none 0 0) 0 []) vec_nil rfl ?_
        refine tr_loop2 [5, 7, 30, 31, 32, 33, 34, 35, 36, 37] (fun (k : Nat) (q : Vs) => [(30, .int .i64 (k : Int)), (5, .slice q.A q.n q.c)]) 0 (fun (k : Nat) (q : Vs) => [(0, vec 5 1 (.slice q.A q.n q.c) q.n q.xs)]) (fun (k : Nat) (q : Vs) => k ≤ 6 ∧ q.n ≤ 6 * k ∧ q.xs = cB (upTo h x k)) (fun (k : Nat) (q : Vs) => 6 - k) (0) (⟨none, 0, 0, []⟩ : Vs) (cov_cons (by first | rfl | exact v_int (by omega) | exact v_bool (by simp [*])) (cov_cons (by first | rfl | exact v_int (by omega) | exact v_bool (by simp [*])) (cov_nil))) (fun w h => h) ?_ ?_
        · try dsimp only
          exact ⟨by omega, by omega, rfl⟩
        intro k q hp
        obtain ⟨hk, hqn, hqx⟩ := hp
        refine tr_seq ?_
        refine tr_region ?_
        refine tl_step rfl (oj_val (y_lss (fe_t rfl) (fe_t rfl)) ?_)
        refine tl_nil ?_
        refine tx_then ?_
        refine tr_seq ?_
        refine tr_condp (fe_t rfl) (fun hq11 => ?_) (fun hq12 => ?_)
        · try (exfalso; omega)
          all_goals
            refine tr_skip ?_
            refine tx_then ?_
            refine tr_seq ?_
            refine tr_block ?_
            refine tr_seq ?_
            have hn6 := nsix_le (k := k) (by omega)
            refine tr_region ?_
            refine tl_step rfl (oj_val (y_index Try.underlying107 Try.sizeOf39 (fe_t rfl) (fe_t rfl) (rdl_vec 1 rfl) (rfl) (by decide) (by omega) (Nat.mul_one _)) ?_)
            refine tl_step rfl (oj_val (y_ld (v := .slice (asix (some ⟨ga, 0, none⟩) (some ⟨g1, 0, none⟩) (some ⟨gb, 0, none⟩) (some ⟨g2, 0, none⟩) (some ⟨hb, 0, none⟩) (some ⟨hb, 4, none⟩) k) (nsix k) (nsix k)) Try.isAgg39 (fe_t rfl) (rdl_vec 1 rfl) (piece6 (by omega))) ?_)
            refine tl_step rfl (oj_val (y_assign (fe_t rfl)) ?_)
            refine tl_nil ?_
            refine tx_then ?_
            refine tr_region ?_
            refine tl_step rfl (oj_val (y_move (fe_t rfl)) ?_)
            refine tl_step rfl (oj_val (y_move (fe_t rfl)) ?_)
            refine tl_step rfl (oj_appg (i := 0) (s := 1) (z := (.int .u8 0)) (bytes := 1) Try.underlying39 (by kernel_rfl) (fe_t rfl) (fe_t rfl) rfl (rdl6 (s := x) (by omega : k < 6) (rdl_vec 3 rfl) (rdl_vec 5 rfl) (rdl_vec 4 rfl) (rdl_vec 2 rfl) (rdl_blkAt (xs := []) (ys := cB [h.s0, h.s1, h.s2, h.s3]) (zs := [.int .u8 h.d0, .int .u8 h.d1, .int .u8 h.d2, .int .u8 h.d3] ++ [(.int .i64 h.pr), (.int .i64 h.sp), (.int .i64 h.dp), (.int .i64 h.ln), (.int .i64 h.mr)]) 6 rfl rfl rfl) (rdl_blkAt (xs := [.int .u8 h.s0, .int .u8 h.s1, .int .u8 h.s2, .int .u8 h.s3]) (ys := cB [h.d0, h.d1, h.d2, h.d3]) (zs := [(.int .i64 h.pr), (.int .i64 h.sp), (.int .i64 h.dp), (.int .i64 h.ln), (.int .i64 h.mr)]) 6 rfl rfl rfl)) (pcs_len (by omega)) (by decide) oneB ⟨by omega, by decide⟩ (fun Aa6 ca6 hca6 => ?_))
            refine tl_step rfl (oj_val (y_assign (fe_t rfl)) ?_)
            refine tl_nil ?_
            refine tx_in ?_
            refine tx_then ?_
            refine tr_region ?_
            refine tl_step rfl (oj_val (y_inc (fe_t rfl) fe_c (by omega)) ?_)
            refine tl_step rfl (oj_val (y_move (fe_t rfl)) ?_)
            refine tl_nil ?_
            apply tx_back2 (k + 1) ((⟨_, _, _, _⟩ : Vs))
            · exact (cov_cons (by first | rfl | exact v_int (by omega) | exact v_bool (by simp [*])) (cov_cons (by first | rfl | exact v_int (by omega) | exact v_bool (by simp [*])) (cov_nil)))
            · repeat (first | exact over_nil | refine over_put rfl ?_ | refine over_drop rfl ?_)
            · exact fun w h => pickT (l := [_, _, _, _, _, _, _, _]) h [0, 1, 2, 3, 4, 5, 6, 7] rfl (by decide)
            · refine ⟨⟨by omega, by dsimp only; omega, ?_⟩, by omega⟩
              dsimp only
              rw [hqx]
              exact upTo_next (by omega)
        · try (exfalso; omega)
          all_goals
            refine tr_exit ?_
            refine tx_then_exit ?_
            refine tx_then_exit ?_
            refine tx_in_exit ?_
            refine tx_then ?_
            refine tr_seq ?_
            refine tr_region ?_
            refine tl_step rfl (oj_val (y_move (fe_t rfl)) ?_)
            refine tl_step rfl (oj_val (y_assign (fe_t rfl)) ?_)
            refine tl_nil ?_
            refine tx_then ?_
            refine tr_ret ?_
            refine tx_ret (res1 Try.results55 (rok_t rfl)) (fun w' hS => ?_)
            obtain rfl : k = 6 := by omega
            have hl := (hS.holds 0 _ rfl).1
            have hqn2 : q.n = 20 := by rw [hqx, upTo_all] at hl; simp [hdr, cB] at hl; omega
            have h1 := pickT (l := [_, _, _, _, _, _, _, _]) hS [0, 6, 7] rfl (by decide)
            exact ⟨q, ⟨hqn2, by rw [hqx, upTo_all]⟩, rfl, h1⟩
      · refine oj_call Try.call54 (fe_t rfl) (fel_cons (fe_t rfl) fel_nil) (fun w' hS => twoE (x) (by omega) (by omega) w') (fun g2 _ => ⟨fun w h => h.pick [3, 4] _ rfl (by decide), ?_⟩)
        refine ta_one (i := 4) rfl (by kernel_rfl) (wants_none rfl) (oj_lit2 Try.underlying39 Try.sizeOf5 Try.zeroValue5 fe_c (fe_t rfl) (fun ga => ⟨fun w h => h.pick [4, 5] _ rfl (by decide), ?_⟩))
        refine ta_one (i := 20) rfl (by kernel_rfl) (wants_none rfl) (oj_litB6 (a := 0) (b := 0) (z := .slice none 0 0) Try.underlying107 Try.sizeOf39 Try.zeroValue39 rfl (fe_t rfl) (fe_t rfl) (fe_t rfl) (fe_t rfl) (fe_t rfl) (fe_t rfl) rfl rfl rfl rfl rfl rfl (fun gp => ⟨fun w h => h.pick [5, 6] _ rfl (by decide), ?_⟩))
        refine ta_float (i := 21) rfl (by kernel_rfl) (wants_none rfl) (yq_of (y_len Try.underlying107 (fe_t rfl))) ?_
        refine ta_done (by kernel_rfl) ?_
        refine tx_then ?_
        refine tr_block ?_
        refine tr_add (r := vec 5 1 (.slice none 0 0) 0 []) vec_nil rfl ?_
        refine tr_loop2 [5, 7, 30, 31, 32, 33, 34, 35, 36, 37] (fun (k : Nat) (q : Vs) => [(30, .int .i64 (k : Int)), (5, .slice q.A q.n q.c)]) 0 (fun (k : Nat) (q : Vs) => [(0, vec 5 1 (.slice q.A q.n q.c) q.n q.xs)]) (fun (k : Nat) (q : Vs) => k ≤ 6 ∧ q.n ≤ 6 * k ∧ q.xs = cB (upTo h x k)) (fun (k : Nat) (q : Vs) => 6 - k) (0) (⟨none, 0, 0, []⟩ : Vs) (cov_cons (by first | rfl | exact v_int (by omega) | exact v_bool (by simp [*])) (cov_cons (by first | rfl | exact v_int (by omega) | exact v_bool (by simp [*])) (cov_nil))) (fun w h => h) ?_ ?_
        · try dsimp only
          exact ⟨by omega, by omega, rfl⟩
        intro k q hp
        obtain ⟨hk, hqn, hqx⟩ := hp
        refine tr_seq ?_
        refine tr_region ?_
        refine tl_step rfl (oj_val (y_lss (fe_t rfl) (fe_t rfl)) ?_)
        refine tl_nil ?_
        refine tx_then ?_
        refine tr_seq ?_
        refine tr_condp (fe_t rfl) (fun hq13 => ?_) (fun hq14 => ?_)
        · try (exfalso; omega)
          all_goals
            refine tr_skip ?_
            refine tx_then ?_
            refine tr_seq ?_
            refine tr_block ?_
            refine tr_seq ?_
            have hn6 := nsix_le (k := k) (by omega)
            refine tr_region ?_
            refine tl_step rfl (oj_val (y_index Try.underlying107 Try.sizeOf39 (fe_t rfl) (fe_t rfl) (rdl_vec 1 rfl) (rfl) (by decide) (by omega) (Nat.mul_one _)) ?_)
            refine tl_step rfl (oj_val (y_ld (v := .slice (asix (some ⟨ga, 0, none⟩) (some ⟨g1, 0, none⟩) (some ⟨gb, 0, none⟩) (some ⟨g2, 0, none⟩) (some ⟨hb, 0, none⟩) (some ⟨hb, 4, none⟩) k) (nsix k) (nsix k)) Try.isAgg39 (fe_t rfl) (rdl_vec 1 rfl) (piece6 (by omega))) ?_)
            refine tl_step rfl (oj_val (y_assign (fe_t rfl)) ?_)
            refine tl_nil ?_
            refine tx_then ?_
            refine tr_region ?_
            refine tl_step rfl (oj_val (y_move (fe_t rfl)) ?_)
            refine tl_step rfl (oj_val (y_move (fe_t rfl)) ?_)
            refine tl_step rfl (oj_appg (i := 0) (s := 1) (z := (.int .u8 0)) (bytes := 1) Try.underlying39 (by kernel_rfl) (fe_t rfl) (fe_t rfl) rfl (rdl6 (s := x) (by omega : k < 6) (rdl_vec 2 rfl) (rdl_vec 5 rfl) (rdl_vec 4 rfl) (rdl_vec 3 rfl) (rdl_blkAt (xs := []) (ys := cB [h.s0, h.s1, h.s2, h.s3]) (zs := [.int .u8 h.d0, .int .u8 h.d1, .int .u8 h.d2, .int .u8 h.d3] ++ [(.int .i64 h.pr), (.int .i64 h.sp), (.int .i64 h.dp), (.int .i64 h.ln), (.int .i64 h.mr)]) 6 rfl rfl rfl) (rdl_blkAt (xs := [.int .u8 h.s0, .int .u8 h.s1, .int .u8 h.s2, .int .u8 h.s3]) (ys := cB [h.d0, h.d1, h.d2, h.d3]) (zs := [(.int .i64 h.pr), (.int .i64 h.sp), (.int .i64 h.dp), (.int .i64 h.ln), (.int .i64 h.mr)]) 6 rfl rfl rfl)) (pcs_len (by omega)) (by decide) oneB ⟨by omega, by decide⟩ (fun Aa7 ca7 hca7 => ?_))
            refine tl_step rfl (oj_val (y_assign (fe_t rfl)) ?_)
            refine tl_nil ?_
            refine tx_in ?_
            refine tx_then ?_
            refine tr_region ?_
            refine tl_step rfl (oj_val (y_inc (fe_t rfl) fe_c (by omega)) ?_)
            refine tl_step rfl (oj_val (y_move (fe_t rfl)) ?_)
            refine tl_nil ?_
            apply tx_back2 (k + 1) ((⟨_, _, _, _⟩ : Vs))
            · exact (cov_cons (by first | rfl | exact v_int (by omega) | exact v_bool (by simp [*])) (cov_cons (by first | rfl | exact v_int (by omega) | exact v_bool (by simp [*])) (cov_nil)))
            · repeat (first | exact over_nil | refine over_put rfl ?_ | refine over_drop rfl ?_)
            · exact fun w h => pickT (l := [_, _, _, _, _, _, _, _]) h [0, 1, 2, 3, 4, 5, 6, 7] rfl (by decide)
            · refine ⟨⟨by omega, by dsimp only; omega, ?_⟩, by omega⟩
              dsimp only
              rw [hqx]
              exact upTo_next (by omega)
        · try (exfalso; omega)
          all_goals
            refine tr_exit ?_
            refine tx_then_exit ?_
            refine tx_then_exit ?_
            refine tx_in_exit ?_
            refine tx_then ?_
            refine tr_seq ?_
            refine tr_region ?_
            refine tl_step rfl (oj_val (y_move (fe_t rfl)) ?_)
            refine tl_step rfl (oj_val (y_assign (fe_t rfl)) ?_)
            refine tl_nil ?_
            refine tx_then ?_
            refine tr_ret ?_
            refine tx_ret (res1 Try.results55 (rok_t rfl)) (fun w' hS => ?_)
            obtain rfl : k = 6 := by omega
            have hl := (hS.holds 0 _ rfl).1
            have hqn2 : q.n = 20 := by rw [hqx, upTo_all] at hl; simp [hdr, cB] at hl; omega
            have h1 := pickT (l := [_, _, _, _, _, _, _, _]) hS [0, 6, 7] rfl (by decide)
            exact ⟨q, ⟨hqn2, by rw [hqx, upTo_all]⟩, rfl, h1⟩
    · refine oj_call Try.call54 (fe_t rfl) (fel_cons (fe_t rfl) fel_nil) (fun w' hS => twoE (x) (by omega) (by omega) w') (fun g2 _ => ⟨fun w h => h.pick [2, 3] _ rfl (by decide), ?_⟩)
      refine ta_two (i := 4) (j := 12) rfl rfl (by kernel_rfl) (wants_none rfl) (wants_none rfl) ?_ ?_
      · refine oj_lit2 Try.underlying39 Try.sizeOf5 Try.zeroValue5 fe_c (fe_t rfl) (fun ga => ⟨fun w h => h.pick [3, 4] _ rfl (by decide), ?_⟩)
        refine ta_one (i := 12) rfl (by kernel_rfl) (wants_none rfl) (oj_litB6 (a := 0) (b := 0) (z := .int .u8 0) Try.underlying39 Try.sizeOf5 Try.zeroValue5 rfl fe_c fe_c fe_c fe_c fe_c (fe_t rfl) rfl rfl rfl rfl rfl rfl (fun gb => ⟨fun w h => h.pick [4, 5] _ rfl (by decide), ?_⟩))
        refine ta_one (i := 20) rfl (by kernel_rfl) (wants_none rfl) (oj_litB6 (a := 0) (b := 0) (z := .slice none 0 0) Try.underlying107 Try.sizeOf39 Try.zeroValue39 rfl (fe_t rfl) (fe_t rfl) (fe_t rfl) (fe_t rfl) (fe_t rfl) (fe_t rfl) rfl rfl rfl rfl rfl rfl (fun gp => ⟨fun w h => h.pick [5, 6] _ rfl (by decide), ?_⟩))
        refine ta_float (i := 21) rfl (by kernel_rfl) (wants_none rfl) (yq_of (y_len Try.underlying107 (fe_t rfl))) ?_
        refine ta_done (by kernel_rfl) ?_
        refine tx_then ?_
        refine tr_block ?_
        refine tr_add (r := vec 5 1 (.slice none 0 0) 0 []) vec_nil rfl ?_
        refine tr_loop2 [5, 7, 30, 31, 32, 33, 34, 35, 36, 37] (fun (k : Nat) (q : Vs) => [(30, .int .i64 (k : Int)), (5, .slice q.A q.n q.c)]) 0 (fun (k : Nat) (q : Vs) => [(0, vec 5 1 (.slice q.A q.n q.c) q.n q.xs)]) (fun (k : Nat) (q : Vs) => k ≤ 6 ∧ q.n ≤ 6 * k ∧ q.xs = cB (upTo h x k)) (fun (k : Nat) (q : Vs) => 6 - k) (0) (⟨none, 0, 0, []⟩ : Vs) (cov_cons (by first | rfl | exact v_int (by omega) | exact v_bool (by simp [*])) (cov_cons (by first | rfl | exact v_int (by omega) | exact v_bool (by simp [*])) (cov_nil))) (fun w h => h) ?_ ?_
        · try dsimp only
          exact ⟨by omega, by omega, rfl⟩
        intro k q hp
        obtain ⟨hk, hqn, hqx⟩ := hp
        refine tr_seq ?_
        refine tr_region ?_
        refine tl_step rfl (oj_val (y_lss (fe_t rfl) (fe_t rfl)) ?_)
        refine tl_nil ?_
        refine tx_then ?_
        refine tr_seq ?_
        refine tr_condp (fe_t rfl) (fun hq15 => ?_) (fun hq16 => ?_)
        · try (exfalso; omega)
          all_goals
            refine tr_skip ?_
            refine tx_then ?_
            refine tr_seq ?_
            refine tr_block ?_
            refine tr_seq ?_
            have hn6 := nsix_le (k := k) (by omega)
            refine tr_region ?_
            refine tl_step rfl (oj_val (y_index Try.underlying107 Try.sizeOf39 (fe_t rfl) (fe_t rfl) (rdl_vec 1 rfl) (rfl) (by decide) (by omega) (Nat.mul_one _)) ?_)
            refine tl_step rfl (oj_val (y_ld (v := .slice (asix (some ⟨ga, 0, none⟩) (some ⟨g1, 0, none⟩) (some ⟨gb, 0, none⟩) (some ⟨g2, 0, none⟩) (some ⟨hb, 0, none⟩) (some ⟨hb, 4, none⟩) k) (nsix k) (nsix k)) Try.isAgg39 (fe_t rfl) (rdl_vec 1 rfl) (piece6 (by omega))) ?_)
            refine tl_step rfl (oj_val (y_assign (fe_t rfl)) ?_)
            refine tl_nil ?_
            refine tx_then ?_
            refine tr_region ?_
            refine tl_step rfl (oj_val (y_move (fe_t rfl)) ?_)
            refine tl_step rfl (oj_val (y_move (fe_t rfl)) ?_)
            refine tl_step rfl (oj_appg (i := 0) (s := 1) (z := (.int .u8 0)) (bytes := 1) Try.underlying39 (by kernel_rfl) (fe_t rfl) (fe_t rfl) rfl (rdl6 (s := x) (by omega : k < 6) (rdl_vec 3 rfl) (rdl_vec 5 rfl) (rdl_vec 2 rfl) (rdl_vec 4 rfl) (rdl_blkAt (xs := []) (ys := cB [h.s0, h.s1, h.s2, h.s3]) (zs := [.int .u8 h.d0, .int .u8 h.d1, .int .u8 h.d2, .int .u8 h.d3] ++ [(.int .i64 h.pr), (.int .i64 h.sp), (.int .i64 h.dp), (.int .i64 h.ln), (.int .i64 h.mr)]) 6 rfl rfl rfl) (rdl_blkAt (xs := [.int .u8 h.s0, .int .u8 h.s1, .int .u8 h.s2, .int .u8 h.s3]) (ys := cB [h.d0, h.d1, h.d2, h.d3]) (zs := [(.int .i64 h.pr), (.int .i64 h.sp), (.int .i64 h.dp), (.int .i64 h.ln), (.int .i64 h.mr)]) 6 rfl rfl rfl)) (pcs_len (by omega)) (by decide) oneB ⟨by omega, by decide⟩ (fun Aa8 ca8 hca8 => ?_))
            refine tl_step rfl (oj_val (y_assign (fe_t rfl)) ?_)
            refine tl_nil ?_
            refine tx_in ?_
            refine tx_then ?_
            refine tr_region ?_
            refine tl_step rfl (oj_val (y_inc (fe_t rfl) fe_c (by omega)) ?_)
            refine tl_step rfl (oj_val (y_move (fe_t rfl)) ?_)
            refine tl_nil ?_
            apply tx_back2 (k + 1) ((⟨_, _, _, _⟩ : Vs))
            · exact (cov_cons (by first | rfl | exact v_int (by omega) | exact v_bool (by simp [*])) (cov_cons (by first | rfl | exact v_int (by omega) | exact v_bool (by simp [*])) (cov_nil)))
            · repeat (first | exact over_nil | refine over_put rfl ?_ | refine over_drop rfl ?_)
            · exact fun w h => pickT (l := [_, _, _, _, _, _, _, _]) h [0, 1, 2, 3, 4, 5, 6, 7] rfl (by decide)
            · refine ⟨⟨by omega, by dsimp only; omega, ?_⟩, by omega⟩
              dsimp only
              rw [hqx]
              exact upTo_next (by omega)
        · try (exfalso; omega)
          all_goals
            refine tr_exit ?_
            refine tx_then_exit ?_
            refine tx_then_exit ?_
            refine tx_in_exit ?_
            refine tx_then ?_
            refine tr_seq ?_
            refine tr_region ?_
            refine tl_step rfl (oj_val (y_move (fe_t rfl)) ?_)
            refine tl_step rfl (oj_val (y_assign (fe_t rfl)) ?_)
            refine tl_nil ?_
            refine tx_then ?_
            refine tr_ret ?_
            refine tx_ret (res1 Try.results55 (rok_t rfl)) (fun w' hS => ?_)
            obtain rfl : k = 6 := by omega
            have hl := (hS.holds 0 _ rfl).1
            have hqn2 : q.n = 20 := by rw [hqx, upTo_all] at hl; simp [hdr, cB] at hl; omega
            have h1 := pickT (l := [_, _, _, _, _, _, _, _]) hS [0, 6, 7] rfl (by decide)
            exact ⟨q, ⟨hqn2, by rw [hqx, upTo_all]⟩, rfl, h1⟩
      · refine oj_litB6 (a := 0) (b := 0) (z := .int .u8 0) Try.underlying39 Try.sizeOf5 Try.zeroValue5 rfl fe_c fe_c fe_c fe_c fe_c (fe_t rfl) rfl rfl rfl rfl rfl rfl (fun gb => ⟨fun w h => h.pick [3, 4] _ rfl (by decide), ?_⟩)
        refine ta_one (i := 4) rfl (by kernel_rfl) (wants_none rfl) (oj_lit2 Try.underlying39 Try.sizeOf5 Try.zeroValue5 fe_c (fe_t rfl) (fun ga => ⟨fun w h => h.pick [4, 5] _ rfl (by decide), ?_⟩))
        refine ta_one (i := 20) rfl (by kernel_rfl) (wants_none rfl) (oj_litB6 (a := 0) (b := 0) (z := .slice none 0 0) Try.underlying107 Try.sizeOf39 Try.zeroValue39 rfl (fe_t rfl) (fe_t rfl) (fe_t rfl) (fe_t rfl) (fe_t rfl) (fe_t rfl) rfl rfl rfl rfl rfl rfl (fun gp => ⟨fun w h => h.pick [5, 6] _ rfl (by decide), ?_⟩))
        refine ta_float (i := 21) rfl (by kernel_rfl) (wants_none rfl) (yq_of (y_len Try.underlying107 (fe_t rfl))) ?_
        refine ta_done (by kernel_rfl) ?_
        refine tx_then ?_
        refine tr_block ?_
        refine tr_add (r := vec 5 1 (.slice none 0 0) 0 []) vec_nil rfl ?_
        refine tr_loop2 [5, 7, 30, 31, 32, 33, 34, 35, 36, 37] (fun (k : Nat) (q : Vs) => [(30, .int .i64 (k : Int)), (5, .slice q.A q.n q.c)]) 0 (fun (k : Nat) (q : Vs) => [(0, vec 5 1 (.slice q.A q.n q.c) q.n q.xs)]) (fun (k : Nat) (q : Vs) => k ≤ 6 ∧ q.n ≤ 6 * k ∧ q.xs = cB (upTo h x k)) (fun (k : Nat) (q : Vs) => 6 - k) (0) (⟨none, 0, 0, []⟩ : Vs) (cov_cons (by first | rfl | exact v_int (by omega) | exact v_bool (by simp [*])) (cov_cons (by first | rfl | exact v_int (by omega) | exact v_bool (by simp [*])) (cov_nil))) (fun w h => h) ?_ ?_
        · try dsimp only
          exact ⟨by omega, by omega, rfl⟩
        intro k q hp
        obtain ⟨hk, hqn, hqx⟩ := hp
        refine tr_seq ?_
        refine tr_region ?_
        refine tl_step rfl (oj_val (y_lss (fe_t rfl) (fe_t rfl)) ?_)
        refine tl_nil ?_
        refine tx_then ?_
        refine tr_seq ?_
        refine tr_condp (fe_t rfl) (fun hq17 => ?_) (fun hq18 => ?_)
        · try (exfalso; omega)
          all_goals
            refine tr_skip ?_
            refine tx_then ?_
            refine tr_seq ?_
            refine tr_block ?_
            refine tr_seq ?_
            have hn6 := nsix_le (k := k) (by omega)
            refine tr_region ?_
            refine tl_step rfl (oj_val (y_index Try.underlying107 Try.sizeOf39 (fe_t rfl) (fe_t rfl) (rdl_vec 1 rfl) (rfl) (by decide) (by omega) (Nat.mul_one _)) ?_)
            refine tl_step rfl (oj_val (y_ld (v := .slice (asix (some ⟨ga, 0, none⟩) (some ⟨g1, 0, none⟩) (some ⟨gb, 0, none⟩) (some ⟨g2, 0, none⟩) (some ⟨hb, 0, none⟩) (some ⟨hb, 4, none⟩) k) (nsix k) (nsix k)) Try.isAgg39 (fe_t rfl) (rdl_vec 1 rfl) (piece6 (by omega))) ?_)
            refine tl_step rfl (oj_val (y_assign (fe_t rfl)) ?_)
            refine tl_nil ?_
            refine tx_then ?_
            refine tr_region ?_
            refine tl_step rfl (oj_val (y_move (fe_t rfl)) ?_)
            refine tl_step rfl (oj_val (y_move (fe_t rfl)) ?_)
            refine tl_step rfl (oj_appg (i := 0) (s := 1) (z := (.int .u8 0)) (bytes := 1) Try.underlying39 (by kernel_rfl) (fe_t rfl) (fe_t rfl) rfl (rdl6 (s := x) (by omega : k < 6) (rdl_vec 2 rfl) (rdl_vec 5 rfl) (rdl_vec 3 rfl) (rdl_vec 4 rfl) (rdl_blkAt (xs := []) (ys := cB [h.s0, h.s1, h.s2, h.s3]) (zs := [.int .u8 h.d0, .int .u8 h.d1, .int .u8 h.d2, .int .u8 h.d3] ++ [(.int .i64 h.pr), (.int .i64 h.sp), (.int .i64 h.dp), (.int .i64 h.ln), (.int .i64 h.mr)]) 6 rfl rfl rfl) (rdl_blkAt (xs := [.int .u8 h.s0, .int .u8 h.s1, .int .u8 h.s2, .int .u8 h.s3]) (ys := cB [h.d0, h.d1, h.d2, h.d3]) (zs := [(.int .i64 h.pr), (.int .i64 h.sp), (.int .i64 h.dp), (.int .i64 h.ln), (.int .i64 h.mr)]) 6 rfl rfl rfl)) (pcs_len (by omega)) (by decide) oneB ⟨by omega, by decide⟩ (fun Aa9 ca9 hca9 => ?_))
            refine tl_step rfl (oj_val (y_assign (fe_t rfl)) ?_)
            refine tl_nil ?_
            refine tx_in ?_
            refine tx_then ?_
            refine tr_region ?_
            refine tl_step rfl (oj_val (y_inc (fe_t rfl) fe_c (by omega)) ?_)
            refine tl_step rfl (oj_val (y_move (fe_t rfl)) ?_)
            refine tl_nil ?_
            apply tx_back2 (k + 1) ((⟨_, _, _, _⟩ : Vs))
            · exact (cov_cons (by first | rfl | exact v_int (by omega) | exact v_bool (by simp [*])) (cov_cons (by first | rfl | exact v_int (by omega) | exact v_bool (by simp [*])) (cov_nil)))
            · repeat (first | exact over_nil | refine over_put rfl ?_ | refine over_drop rfl ?_)
            · exact fun w h => pickT (l := [_, _, _, _, _, _, _, _]) h [0, 1, 2, 3, 4, 5, 6, 7] rfl (by decide)
            · refine ⟨⟨by omega, by dsimp only; omega, ?_⟩, by omega⟩
              dsimp only
              rw [hqx]
              exact upTo_next (by omega)
        · try (exfalso; omega)
          all_goals
            refine tr_exit ?_
            refine tx_then_exit ?_
            refine tx_then_exit ?_
            refine tx_in_exit ?_
            refine tx_then ?_
            refine tr_seq ?_
            refine tr_region ?_
            refine tl_step rfl (oj_val (y_move (fe_t rfl)) ?_)
            refine tl_step rfl (oj_val (y_assign (fe_t rfl)) ?_)
            refine tl_nil ?_
            refine tx_then ?_
            refine tr_ret ?_
            refine tx_ret (res1 Try.results55 (rok_t rfl)) (fun w' hS => ?_)
            obtain rfl : k = 6 := by omega
            have hl := (hS.holds 0 _ rfl).1
            have hqn2 : q.n = 20 := by rw [hqx, upTo_all] at hl; simp [hdr, cB] at hl; omega
            have h1 := pickT (l := [_, _, _, _, _, _, _, _]) hS [0, 6, 7] rfl (by decide)
            exact ⟨q, ⟨hqn2, by rw [hqx, upTo_all]⟩, rfl, h1⟩
  · refine oj_litB6 (a := 0) (b := 0) (z := .int .u8 0) Try.underlying39 Try.sizeOf5 Try.zeroValue5 rfl fe_c fe_c fe_c fe_c fe_c (fe_t rfl) rfl rfl rfl rfl rfl rfl (fun gb => ⟨fun w h => h.pick [1, 2] _ rfl (by decide), ?_⟩)
    refine ta_two (i := 4) (j := 8) rfl rfl (by kernel_rfl) (wants_none rfl) (wants_none rfl) ?_ ?_
    · refine oj_lit2 Try.underlying39 Try.sizeOf5 Try.zeroValue5 fe_c (fe_t rfl) (fun ga => ⟨fun w h => h.pick [2, 3] _ rfl (by decide), ?_⟩)
      refine ta_one (i := 8) rfl (by kernel_rfl) (wants_none rfl) (oj_call Try.call54 (fe_t rfl) (fel_cons (fe_t rfl) fel_nil) (fun w' hS => twoE (h.ln) (by omega) (by omega) w') (fun g1 _ => ⟨fun w h => h.pick [3, 4] _ rfl (by decide), ?_⟩))
      refine ta_one (i := 15) rfl (by kernel_rfl) (wants_none rfl) (oj_call Try.call54 (fe_t rfl) (fel_cons (fe_t rfl) fel_nil) (fun w' hS => twoE (x) (by omega) (by omega) w') (fun g2 _ => ⟨fun w h => h.pick [4, 5] _ rfl (by decide), ?_⟩))
      refine ta_one (i := 20) rfl (by kernel_rfl) (wants_none rfl) (oj_litB6 (a := 0) (b := 0) (z := .slice none 0 0) Try.underlying107 Try.sizeOf39 Try.zeroValue39 rfl (fe_t rfl) (fe_t rfl) (fe_t rfl) (fe_t rfl) (fe_t rfl) (fe_t rfl) rfl rfl rfl rfl rfl rfl (fun gp => ⟨fun w h => h.pick [5, 6] _ rfl (by decide), ?_⟩))
      refine ta_float (i := 21) rfl (by kernel_rfl) (wants_none rfl) (yq_of (y_len Try.underlying107 (fe_t rfl))) ?_
      refine ta_done (by kernel_rfl) ?_
      refine tx_then ?_
      refine tr_block ?_
      refine tr_add (r := vec 5 1 (.slice none 0 0) 0 []) vec_nil rfl ?_
      refine tr_loop2 [5, 7, 30, 31, 32, 33, 34, 35, 36, 37] (fun (k : Nat) (q : Vs) => [(30, .int .i64 (k : Int)), (5, .slice q.A q.n q.c)]) 0 (fun (k : Nat) (q : Vs) => [(0, vec 5 1 (.slice q.A q.n q.c) q.n q.xs)]) (fun (k : Nat) (q : Vs) => k ≤ 6 ∧ q.n ≤ 6 * k ∧ q.xs = cB (upTo h x k)) (fun (k : Nat) (q : Vs) => 6 - k) (0) (⟨none, 0, 0, []⟩ : Vs) (cov_cons (by first | rfl | exact v_int (by omega) | exact v_bool (by simp [*])) (cov_cons (by first | rfl | exact v_int (by omega) | exact v_bool (by simp [*])) (cov_nil))) (fun w h => h) ?_ ?_
      · try dsimp only
        exact ⟨by omega, by omega, rfl⟩
      intro k q hp
      obtain ⟨hk, hqn, hqx⟩ := hp
      refine tr_seq ?_
      refine tr_region ?_
      refine tl_step rfl (oj_val (y_lss (fe_t rfl) (fe_t rfl)) ?_)
      refine tl_nil ?_
      refine tx_then ?_
      refine tr_seq ?_
      refine tr_condp (fe_t rfl) (fun hq19 => ?_) (fun hq20 => ?_)
      · try (exfalso; omega)
        all_goals
          refine tr_skip ?_
          refine tx_then ?_
          refine tr_seq ?_
          refine tr_block ?_
          refine tr_seq ?_
          have hn6 := nsix_le (k := k) (by omega)
          refine tr_region ?_
          refine tl_step rfl (oj_val (y_index Try.underlying107 Try.sizeOf39 (fe_t rfl) (fe_t rfl) (rdl_vec 1 rfl) (rfl) (by decide) (by omega) (Nat.mul_one _)) ?_)
          refine tl_step rfl (oj_val (y_ld (v := .slice (asix (some ⟨ga, 0, none⟩) (some ⟨g1, 0, none⟩) (some ⟨gb, 0, none⟩) (some ⟨g2, 0, none⟩) (some ⟨hb, 0, none⟩) (some ⟨hb, 4, none⟩) k) (nsix k) (nsix k)) Try.isAgg39 (fe_t rfl) (rdl_vec 1 rfl) (piece6 (by omega))) ?_)
          refine tl_step rfl (oj_val (y_assign (fe_t rfl)) ?_)
          refine tl_nil ?_
          refine tx_then ?_
          refine tr_region ?_
          refine tl_step rfl (oj_val (y_move (fe_t rfl)) ?_)
          refine tl_step rfl (oj_val (y_move (fe_t rfl)) ?_)
          refine tl_step rfl (oj_appg (i := 0) (s := 1) (z := (.int .u8 0)) (bytes := 1) Try.underlying39 (by kernel_rfl) (fe_t rfl) (fe_t rfl) rfl (rdl6 (s := x) (by omega : k < 6) (rdl_vec 4 rfl) (rdl_vec 3 rfl) (rdl_vec 5 rfl) (rdl_vec 2 rfl) (rdl_blkAt (xs := []) (ys := cB [h.s0, h.s1, h.s2, h.s3]) (zs := [.int .u8 h.d0, .int .u8 h.d1, .int .u8 h.d2, .int .u8 h.d3] ++ [(.int .i64 h.pr), (.int .i64 h.sp), (.int .i64 h.dp), (.int .i64 h.ln), (.int .i64 h.mr)]) 6 rfl rfl rfl) (rdl_blkAt (xs := [.int .u8 h.s0, .int .u8 h.s1, .int .u8 h.s2, .int .u8 h.s3]) (ys := cB [h.d0, h.d1, h.d2, h.d3]) (zs := [(.int .i64 h.pr), (.int .i64 h.sp), (.int .i64 h.dp), (.int .i64 h.ln), (.int .i64 h.mr)]) 6 rfl rfl rfl)) (pcs_len (by omega)) (by decide) oneB ⟨by omega, by decide⟩ (fun Aa10 ca10 hca10 => ?_))
          refine tl_step rfl (oj_val (y_assign (fe_t rfl)) ?_)
          refine tl_nil ?_
          refine tx_in ?_
          refine tx_then ?_
          refine tr_region ?_
          refine tl_step rfl (oj_val (y_inc (fe_t rfl) fe_c (by omega)) ?_)
          refine tl_step rfl (oj_val (y_move (fe_t rfl)) ?_)
          refine tl_nil ?_
          apply tx_back2 (k + 1) ((⟨_, _, _, _⟩ : Vs))
          · exact (cov_cons (by first | rfl | exact v_int (by omega) | exact v_bool (by simp [*])) (cov_cons (by first | rfl | exact v_int (by omega) | exact v_bool (by simp [*])) (cov_nil)))
          · repeat (first | exact over_nil | refine over_put rfl ?_ | refine over_drop rfl ?_)
          · exact fun w h => pickT (l := [_, _, _, _, _, _, _, _]) h [0, 1, 2, 3, 4, 5, 6, 7] rfl (by decide)
          · refine ⟨⟨by omega, by dsimp only; omega, ?_⟩, by omega⟩
            dsimp only
            rw [hqx]
            exact upTo_next (by omega)
      · try (exfalso; omega)
        all_goals
          refine tr_exit ?_
          refine tx_then_exit ?_
          refine tx_then_exit ?_
          refine tx_in_exit ?_
          refine tx_then ?_
          refine tr_seq ?_
          refine tr_region ?_
          refine tl_step rfl (oj_val (y_move (fe_t rfl)) ?_)
          refine tl_step rfl (oj_val (y_assign (fe_t rfl)) ?_)
          refine tl_nil ?_
          refine tx_then ?_
          refine tr_ret ?_
          refine tx_ret (res1 Try.results55 (rok_t rfl)) (fun w' hS => ?_)
          obtain rfl : k = 6 := by omega
          have hl := (hS.holds 0 _ rfl).1
          have hqn2 : q.n = 20 := by rw [hqx, upTo_all] at hl; simp [hdr, cB] at hl; omega
          have h1 := pickT (l := [_, _, _, _, _, _, _, _]) hS [0, 6, 7] rfl (by decide)
          exact ⟨q, ⟨hqn2, by rw [hqx, upTo_all]⟩, rfl, h1⟩
    · refine oj_call Try.call54 (fe_t rfl) (fel_cons (fe_t rfl) fel_nil) (fun w' hS => twoE (h.ln) (by omega) (by omega) w') (fun g1 _ => ⟨fun w h => h.pick [2, 3] _ rfl (by decide), ?_⟩)
      refine ta_two (i := 4) (j := 15) rfl rfl (by kernel_rfl) (wants_none rfl) (wants_none rfl) ?_ ?_
      · refine oj_lit2 Try.underlying39 Try.sizeOf5 Try.zeroValue5 fe_c (fe_t rfl) (fun ga => ⟨fun w h => h.pick [3, 4] _ rfl (by decide), ?_⟩)
        refine ta_one (i := 15) rfl (by kernel_rfl) (wants_none rfl) (oj_call Try.call54 (fe_t rfl) (fel_cons (fe_t rfl) fel_nil) (fun w' hS => twoE (x) (by omega) (by omega) w') (fun g2 _ => ⟨fun w h => h.pick [4, 5] _ rfl (by decide), ?_⟩))
        refine ta_one (i := 20) rfl (by kernel_rfl) (wants_none rfl) (oj_litB6 (a := 0) (b := 0) (z := .slice none 0 0) Try.underlying107 Try.sizeOf39 Try.zeroValue39 rfl (fe_t rfl) (fe_t rfl) (fe_t rfl) (fe_t rfl) (fe_t rfl) (fe_t rfl) rfl rfl rfl rfl rfl rfl (fun gp => ⟨fun w h => h.pick [5, 6] _ rfl (by decide), ?_⟩))
        refine ta_float (i := 21) rfl (by kernel_rfl) (wants_none rfl) (yq_of (y_len Try.underlying107 (fe_t rfl))) ?_
        refine ta_done (by kernel_rfl) ?_
        refine tx_then ?_
        refine tr_block ?_
        refine tr_add (r := vec 5 1 (.slice none 0 0) 0 []) vec_nil rfl ?_
        refine tr_loop2 [5, 7, 30, 31, 32, 33, 34, 35, 36, 37] (fun (k : Nat) (q : Vs) => [(30, .int .i64 (k : Int)), (5, .slice q.A q.n q.c)]) 0 (fun (k : Nat) (q : Vs) => [(0, vec 5 1 (.slice q.A q.n q.c) q.n q.xs)]) (fun (k : Nat) (q : Vs) => k ≤ 6 ∧ q.n ≤ 6 * k ∧ q.xs = cB (upTo h x k)) (fun (k : Nat) (q : Vs) => 6 - k) (0) (⟨none, 0, 0, []⟩ : Vs) (cov_cons (by first | rfl | exact v_int (by omega) | exact v_bool (by simp [*])) (cov_cons (by first | rfl | exact v_int (by omega) | exact v_bool (by simp [*])) (cov_nil))) (fun w h => h) ?_ ?_
        · try dsimp only
          exact ⟨by omega, by omega, rfl⟩
        intro k q hp
        obtain ⟨hk, hqn, hqx⟩ := hp
        refine tr_seq ?_
        refine tr_region ?_
        refine tl_step rfl (oj_val (y_lss (fe_t rfl) (fe_t rfl)) ?_)
        refine tl_nil ?_
        refine tx_then ?_
        refine tr_seq ?_
        refine tr_condp (fe_t rfl) (fun hq21 => ?_) (fun hq22 => ?_)
        · try (exfalso; omega)
          all_goals
            refine tr_skip ?_
            refine tx_then ?_
            refine tr_seq ?_
            refine tr_block ?_
            refine tr_seq ?_
            have hn6 := nsix_le (k := k) (by omega)
            refine tr_region ?_
            refine tl_step rfl (oj_val (y_index Try.underlying107 Try.sizeOf39 (fe_t rfl) (fe_t rfl) (rdl_vec 1 rfl) (rfl) (by decide) (by omega) (Nat.mul_one _)) ?_)
            refine tl_step rfl (oj_val (y_ld (v := .slice (asix (some ⟨ga, 0, none⟩) (some ⟨g1, 0, none⟩) (some ⟨gb, 0, none⟩) (some ⟨g2, 0, none⟩) (some ⟨hb, 0, none⟩) (some ⟨hb, 4, none⟩) k) (nsix k) (nsix k)) Try.isAgg39 (fe_t rfl) (rdl_vec 1 rfl) (piece6 (by omega))) ?_)
            refine tl_step rfl (oj_val (y_assign (fe_t rfl)) ?_)
            refine tl_nil ?_
            refine tx_then ?_
            refine tr_region ?_
            refine tl_step rfl (oj_val (y_move (fe_t rfl)) ?_)
            refine tl_step rfl (oj_val (y_move (fe_t rfl)) ?_)
            refine tl_step rfl (oj_appg (i := 0) (s := 1) (z := (.int .u8 0)) (bytes := 1) Try.underlying39 (by kernel_rfl) (fe_t rfl) (fe_t rfl) rfl (rdl6 (s := x) (by omega : k < 6) (rdl_vec 3 rfl) (rdl_vec 4 rfl) (rdl_vec 5 rfl) (rdl_vec 2 rfl) (rdl_blkAt (xs := []) (ys := cB [h.s0, h.s1, h.s2, h.s3]) (zs := [.int .u8 h.d0, .int .u8 h.d1, .int .u8 h.d2, .int .u8 h.d3] ++ [(.int .i64 h.pr), (.int .i64 h.sp), (.int .i64 h.dp), (.int .i64 h.ln), (.int .i64 h.mr)]) 6 rfl rfl rfl) (rdl_blkAt (xs := [.int .u8 h.s0, .int .u8 h.s1, .int .u8 h.s2, .int .u8 h.s3]) (ys := cB [h.d0, h.d1, h.d2, h.d3]) (zs := [(.int .i64 h.pr), (.int .i64 h.sp), (.int .i64 h.dp), (.int .i64 h.ln), (.int .i64 h.mr)]) 6 rfl rfl rfl)) (pcs_len (by omega)) (by decide) oneB ⟨by omega, by decide⟩ (fun Aa11 ca11 hca11 => ?_))
            refine tl_step rfl (oj_val (y_assign (fe_t rfl)) ?_)
            refine tl_nil ?_
            refine tx_in ?_
            refine tx_then ?_
            refine tr_region ?_
            refine tl_step rfl (oj_val (y_inc (fe_t rfl) fe_c (by omega)) ?_)
            refine tl_step rfl (oj_val (y_move (fe_t rfl)) ?_)
            refine tl_nil ?_
            apply tx_back2 (k + 1) ((⟨_, _, _, _⟩ : Vs))
            · exact (cov_cons (by first | rfl | exact v_int (by omega) | exact v_bool (by simp [*])) (cov_cons (by first | rfl | exact v_int (by omega) | exact v_bool (by simp [*])) (cov_nil)))
            · repeat (first | exact over_nil | refine over_put rfl ?_ | refine over_drop rfl ?_)
            · exact fun w h => pickT (l := [_, _, _, _, _, _, _, _]) h [0, 1, 2, 3, 4, 5, 6, 7] rfl (by decide)
            · refine ⟨⟨by omega, by dsimp only; omega, ?_⟩, by omega⟩
              dsimp only
              rw [hqx]
              exact upTo_next (by omega)
        · try (exfalso; omega)
          all_goals
            refine tr_exit ?_
            refine tx_then_exit ?_
            refine tx_then_exit ?_
            refine tx_in_exit ?_
            refine tx_then ?_
            refine tr_seq ?_
            refine tr_region ?_
            refine tl_step rfl (oj_val (y_move (fe_t rfl)) ?_)
            refine tl_step rfl (oj_val (y_assign (fe_t rfl)) ?_)
            refine tl_nil ?_
            refine tx_then ?_
            refine tr_ret ?_
            refine tx_ret (res1 Try.results55 (rok_t rfl)) (fun w' hS => ?_)
            obtain rfl : k = 6 := by omega
            have hl := (hS.holds 0 _ rfl).1
            have hqn2 : q.n = 20 := by rw [hqx, upTo_all] at hl; simp [hdr, cB] at hl; omega
            have h1 := pickT (l := [_, _, _, _, _, _, _, _]) hS [0, 6, 7] rfl (by decide)
            exact ⟨q, ⟨hqn2, by rw [hqx, upTo_all]⟩, rfl, h1⟩
      · refine oj_call Try.call54 (fe_t rfl) (fel_cons (fe_t rfl) fel_nil) (fun w' hS => twoE (x) (by omega) (by omega) w') (fun g2 _ => ⟨fun w h => h.pick [3, 4] _ rfl (by decide), ?_⟩)
        refine ta_one (i := 4) rfl (by kernel_rfl) (wants_none rfl) (oj_lit2 Try.underlying39 Try.sizeOf5 Try.zeroValue5 fe_c (fe_t rfl) (fun ga => ⟨fun w h => h.pick [4, 5] _ rfl (by decide), ?_⟩))
        refine ta_one (i := 20) rfl (by kernel_rfl) (wants_none rfl) (oj_litB6 (a := 0) (b := 0) (z := .slice none 0 0) Try.underlying107 Try.sizeOf39 Try.zeroValue39 rfl (fe_t rfl) (fe_t rfl) (fe_t rfl) (fe_t rfl) (fe_t rfl) (fe_t rfl) rfl rfl rfl rfl rfl rfl (fun gp => ⟨fun w h => h.pick [5, 6] _ rfl (by decide), ?_⟩))
        refine ta_float (i := 21) rfl (by kernel_rfl) (wants_none rfl) (yq_of (y_len Try.underlying107 (fe_t rfl))) ?_
        refine ta_done (by kernel_rfl) ?_
        refine tx_then ?_
        refine tr_block ?_
        refine tr_add (r := vec 5 1 (.slice none 0 0) 0 []) vec_nil rfl ?_
        refine tr_loop2 [5, 7, 30, 31, 32, 33, 34, 35, 36, 37] (fun (k : Nat) (q : Vs) => [(30, .int .i64 (k : Int)), (5, .slice q.A q.n q.c)]) 0 (fun (k : Nat) (q : Vs) => [(0, vec 5 1 (.slice q.A q.n q.c) q.n q.xs)]) (fun (k : Nat) (q : Vs) => k ≤ 6 ∧ q.n ≤ 6 * k ∧ q.xs = cB (upTo h x k)) (fun (k : Nat) (q : Vs) => 6 - k) (0) (⟨none, 0, 0, []⟩ : Vs) (cov_cons (by first | rfl | exact v_int (by omega) | exact v_bool (by simp [*])) (cov_cons (by first | rfl | exact v_int (by omega) | exact v_bool (by simp [*])) (cov_nil))) (fun w h => h) ?_ ?_
        · try dsimp only
          exact ⟨by omega, by omega, rfl⟩
        intro k q hp
        obtain ⟨hk, hqn, hqx⟩ := hp
        refine tr_seq ?_
        refine tr_region ?_
        refine tl_step rfl (oj_val (y_lss (fe_t rfl) (fe_t rfl)) ?_)
        refine tl_nil ?_
        refine tx_then ?_
        refine tr_seq ?_
        refine tr_condp (fe_t rfl) (fun hq23 => ?_) (fun hq24 => ?_)
        · try (exfalso; omega)
          all_goals
            refine tr_skip ?_
            refine tx_then ?_
            refine tr_seq ?_
            refine tr_block ?_
            refine tr_seq ?_
            have hn6 := nsix_le (k := k) (by omega)
            refine tr_region ?_
            refine tl_step rfl (oj_val (y_index Try.underlying107 Try.sizeOf39 (fe_t rfl) (fe_t rfl) (rdl_vec 1 rfl) (rfl) (by decide) (by omega) (Nat.mul_one _)) ?_)
            refine tl_step rfl (oj_val (y_ld (v := .slice (asix (some ⟨ga, 0, none⟩) (some ⟨g1, 0, none⟩) (some ⟨gb, 0, none⟩) (some ⟨g2, 0, none⟩) (some ⟨hb, 0, none⟩) (some ⟨hb, 4, none⟩) k) (nsix k) (nsix k)) Try.isAgg39 (fe_t rfl) (rdl_vec 1 rfl) (piece6 (by omega))) ?_)
            refine tl_step rfl (oj_val (y_assign (fe_t rfl)) ?_)
            refine tl_nil ?_
            refine tx_then ?_
            refine tr_region ?_
            refine tl_step rfl (oj_val (y_move (fe_t rfl)) ?_)
            refine tl_step rfl (oj_val (y_move (fe_t rfl)) ?_)
            refine tl_step rfl (oj_appg (i := 0) (s := 1) (z := (.int .u8 0)) (bytes := 1) Try.underlying39 (by kernel_rfl) (fe_t rfl) (fe_t rfl) rfl (rdl6 (s := x) (by omega : k < 6) (rdl_vec 2 rfl) (rdl_vec 4 rfl) (rdl_vec 5 rfl) (rdl_vec 3 rfl) (rdl_blkAt (xs := []) (ys := cB [h.s0, h.s1, h.s2, h.s3]) (zs := [.int .u8 h.d0, .int .u8 h.d1, .int .u8 h.d2, .int .u8 h.d3] ++ [(.int .i64 h.pr), (.int .i64 h.sp), (.int .i64 h.dp), (.int .i64 h.ln), (.int .i64 h.mr)]) 6 rfl rfl rfl) (rdl_blkAt (xs := [.int .u8 h.s0, .int .u8 h.s1, .int .u8 h.s2, .int .u8 h.s3]) (ys := cB [h.d0, h.d1, h.d2, h.d3]) (zs := [(.int .i64 h.pr), (.int .i64 h.sp), (.int .i64 h.dp), (.int .i64 h.ln), (.int .i64 h.mr)]) 6 rfl rfl rfl)) (pcs_len (by omega)) (by decide) oneB ⟨by omega, by decide⟩ (fun Aa12 ca12 hca12 => ?_))
            refine tl_step rfl (oj_val (y_assign (fe_t rfl)) ?_)
            refine tl_nil ?_
            refine tx_in ?_
            refine tx_then ?_
            refine tr_region ?_
            refine tl_step rfl (oj_val (y_inc (fe_t rfl) fe_c (by omega)) ?_)
            refine tl_step rfl (oj_val (y_move (fe_t rfl)) ?_)
            refine tl_nil ?_
            apply tx_back2 (k + 1) ((⟨_, _, _, _⟩ : Vs))
            · exact (cov_cons (by first | rfl | exact v_int (by omega) | exact v_bool (by simp [*])) (cov_cons (by first | rfl | exact v_int (by omega) | exact v_bool (by simp [*])) (cov_nil)))
            · repeat (first | exact over_nil | refine over_put rfl ?_ | refine over_drop rfl ?_)
            · exact fun w h => pickT (l := [_, _, _, _, _, _, _, _]) h [0, 1, 2, 3, 4, 5, 6, 7] rfl (by decide)
            · refine ⟨⟨by omega, by dsimp only; omega, ?_⟩, by omega⟩
              dsimp only
              rw [hqx]
              exact upTo_next (by omega)
        · try (exfalso; omega)
          all_goals
            refine tr_exit ?_
            refine tx_then_exit ?_
            refine tx_then_exit ?_
            refine tx_in_exit ?_
            refine tx_then ?_
            refine tr_seq ?_
            refine tr_region ?_
            refine tl_step rfl (oj_val (y_move (fe_t rfl)) ?_)
            refine tl_step rfl (oj_val (y_assign (fe_t rfl)) ?_)
            refine tl_nil ?_
            refine tx_then ?_
            refine tr_ret ?_
            refine tx_ret (res1 Try.results55 (rok_t rfl)) (fun w' hS => ?_)
            obtain rfl : k = 6 := by omega
            have hl := (hS.holds 0 _ rfl).1
            have hqn2 : q.n = 20 := by rw [hqx, upTo_all] at hl; simp [hdr, cB] at hl; omega
            have h1 := pickT (l := [_, _, _, _, _, _, _, _]) hS [0, 6, 7] rfl (by decide)
            exact ⟨q, ⟨hqn2, by rw [hqx, upTo_all]⟩, rfl, h1⟩

set_option maxRecDepth 100000 in
set_option maxHeartbeats 4000000 in
theorem ewrite_p (h : Hd) (ho : h.ok) (hw0 : wr h = 0) (hp :  (h.pr = 6 ∨ h.pr = 17)) {m : Nat} (hln : h.ln = (((m + 4 + 20) : Nat) : Int)) (w : World) :
    Calls Try.prog 17 #[.agg #[.int .u8 h.s0, .int .u8 h.s1, .int .u8 h.s2, .int .u8 h.s3, .int .u8 h.d0, .int .u8 h.d1, .int .u8 h.d2, .int .u8 h.d3, (.int .i64 h.pr), (.int .i64 h.sp), (.int .i64 h.dp), (.int .i64 h.ln), (.int .i64 h.mr)]] w fun e w' => ∃ q : Vs, (q.n = (wb h).length ∧ q.xs = cB (wb h)) ∧ e = .returned (.tuple #[.slice q.A q.n q.c, (.int .i64 0)]) ∧ St w w' [vec 5 1 (.slice q.A q.n q.c) q.n q.xs] := by
  have hwb := wb_p hp hln
  obtain ⟨hf1, hf2, hf3⟩ := wr_fine hw0
  have hck := ck_bd h
  have hfb := foldI_bd (wsum (hdr h 0))
  refine calls_tr Try.func17 Try.ntmps17 rfl rfl (St.refl _) ?_
  refine tr_seq ?_
  refine tr_region ?_
  refine tl_step rfl (oj_box (fe_t rfl) (fun hb => ?_))
  refine tl_step rfl (oj_val (y_assign fe_c) ?_)
  refine tl_step rfl (oj_val (y_assign fe_c) ?_)
  refine tl_nil ?_
  refine tx_then ?_
  refine tr_seq ?_
  refine tr_seq ?_
  refine tr_region ?_
  refine tl_step rfl (oj_val (y_ldbA 0 Try.isAgg38 Try.sizeOf38 (fe_t rfl) rfl rfl rfl) ?_)
  refine tl_step rfl (oj_callv Try.call21 fe_f (fel_cons (fe_t rfl) fel_nil) (fun w' hS => ewrongE h w') ?_)
  refine tl_step rfl (oj_val (y_assign (fe_t rfl)) ?_)
  refine tl_nil ?_
  refine tx_then ?_
  refine tr_seq ?_
  refine tr_region ?_
  refine tl_step rfl (oj_val (y_move (fe_t rfl)) ?_)
  refine tl_step rfl (oj_val (y_neq (fe_t rfl) fe_c) ?_)
  refine tl_nil ?_
  refine tx_then ?_
  refine tr_condp (fe_t rfl) (fun hq1 => ?_) (fun hq2 => ?_)
  · exact absurd hw0 hq1
  · try (exfalso; omega)
    all_goals
      refine tr_skip ?_
      refine tx_then ?_
      refine tr_seq ?_
      refine tr_region ?_
      refine tl_step rfl (oj_alloc Try.zeroValue106 (fun tb => ?_))
      refine tl_step rfl (oj_store1 0 Try.sizeOf106 (fe_t rfl) fe_f rfl rfl rfl rfl (?_))
      refine tl_nil ?_
      refine tx_then ?_
      refine tr_seq ?_
      refine tr_region ?_
      refine tl_step rfl (oj_val (y_makeFunc (fel_cons (fe_t rfl) (fel_cons (fe_t rfl) fel_nil))) ?_)
      refine tl_step rfl (oj_val (y_assign (fe_t rfl)) ?_)
      refine tl_nil ?_
      refine tx_then ?_
      refine tr_seq ?_
      have hce : 65535 - foldI (wsum (hdr h 0)) = ck h := rfl
      refine tr_region ?_
      refine tl_step rfl (oj_val (y_move (fe_t rfl)) ?_)
      refine tl_step rfl (oj_val (y_move (fe_t rfl)) ?_)
      refine tl_step rfl (oj_callF Try.call55 (fe_t rfl) (fel_cons fe_c fel_nil) (fun w' hS => layE h (0) (by omega) (by omega) hw0 (hS.pick [1, 0] [_, _] rfl (by decide))) (fun a ha => ?_))
      refine tl_step rfl (oj_callv Try.call56 fe_f (fel_cons (fe_t rfl) fel_nil) (fun w' hS => dofE _ _ _ (hdr h 0) w' ((rdl_vec 0 rfl) w' hS) ha.2 ha.1.symm (hdr_by ho hw0 (by decide) (by decide)) (by omega)) ?_)
      refine tl_step rfl (oj_val (y_sub fe_c (fe_t rfl) (by omega)) ?_)
      refine tl_step rfl (oj_callF Try.call55 (fe_t rfl) (fel_cons (fe_t rfl) fel_nil) (fun w' hS => layE h (ck h) (by omega) (by omega) hw0 (hS.pick [1, 2, 0] [_, _, _] rfl (by decide))) (fun b hb => ?_))
      refine tl_step rfl (oj_val (y_assign (fe_t rfl)) ?_)
      refine tl_nil ?_
      refine tx_then ?_
      refine tr_seq ?_
      refine tr_seq ?_
      refine tr_region ?_
      refine tl_step rfl (oj_val (y_fieldAddr (td := 3) Try.underlying38 rfl rfl Try.sizeOf3 (o' := 8) rfl (fe_t rfl)) ?_)
      refine tl_step rfl (oj_val (y_ldb 1 Try.isAgg3 (fe_t rfl) rfl rfl) ?_)
      refine tl_step rfl (oj_callv Try.call57 fe_f (fel_cons (fe_t rfl) fel_nil) (fun w' hS => eportsE h.pr w') ?_)
      refine tl_nil ?_
      refine tx_then ?_
      refine tr_condp (fe_t rfl) (fun hq3 => ?_) (fun hq4 => ?_)
      · try (exfalso; omega)
        all_goals
          refine tr_draw (sel _ [1, 2, 3]) (fun w h => h.sel _ rfl (by decide)) rfl ?_
          refine ta_float (i := 0) rfl (by kernel_rfl) (wants_none rfl) (yq_of (y_move (fe_t rfl))) ?_
          refine ta_float (i := 1) rfl (by kernel_rfl) (wants_none rfl) (yq_of (y_ldb 1 Try.isAgg106 (fe_t rfl) rfl rfl)) ?_
          refine ta_float (i := 2) rfl (by kernel_rfl) (wants_none rfl) (yq_of (y_fieldAddr (td := 3) Try.underlying38 rfl rfl Try.sizeOf3 (o' := 9) rfl (fe_t rfl))) ?_
          refine ta_float (i := 3) rfl (by kernel_rfl) (wants_none rfl) (yq_of (y_ldb 0 Try.isAgg3 (fe_t rfl) rfl rfl)) ?_
          refine ta_float (i := 6) rfl (by kernel_rfl) (wants_none rfl) (yq_of (y_ldb 1 Try.isAgg106 (fe_t rfl) rfl rfl)) ?_
          refine ta_float (i := 7) rfl (by kernel_rfl) (wants_none rfl) (yq_of (y_fieldAddr (td := 3) Try.underlying38 rfl rfl Try.sizeOf3 (o' := 10) rfl (fe_t rfl))) ?_
          refine ta_float (i := 8) rfl (by kernel_rfl) (wants_none rfl) (yq_of (y_ldb 0 Try.isAgg3 (fe_t rfl) rfl rfl)) ?_
          refine ta_one (i := 4) rfl (by kernel_rfl) (wants_none rfl) (oj_call Try.call54 (fe_t rfl) (fel_cons (fe_t rfl) fel_nil) (fun w' hS => twoE (h.sp) (by omega) (by omega) w') (fun g1 _ => ⟨fun w h => h.pick [2, 3, 4] _ rfl (by decide), ?_⟩))
          refine ta_one (i := 5) rfl (by kernel_rfl) (wants_none rfl) (oj_appg (i := 1) (s := 1) (z := (.int .u8 0)) (bytes := 1) Try.underlying39 (by kernel_rfl) (fe_t rfl) (fe_t rfl) rfl (rdl_vec 0 rfl) (rfl) (by decide) oneB ⟨by omega, by decide⟩ (fun Aa1 ca1 hca1 => ⟨fun w h => h.pick [2, 3, 4] _ rfl (by decide), ?_⟩))
          refine ta_one (i := 9) rfl (by kernel_rfl) (wants_none rfl) (oj_call Try.call54 (fe_t rfl) (fel_cons (fe_t rfl) fel_nil) (fun w' hS => twoE (h.dp) (by omega) (by omega) w') (fun g2 _ => ⟨fun w h => h.pick [3, 4, 5] _ rfl (by decide), ?_⟩))
          refine ta_one (i := 10) rfl (by kernel_rfl) (wants_none rfl) (oj_appg (i := 2) (s := 1) (z := (.int .u8 0)) (bytes := 1) Try.underlying39 (by kernel_rfl) (fe_t rfl) (fe_t rfl) rfl (rdl_vec 0 rfl) (rfl) (by decide) oneB ⟨by omega, by decide⟩ (fun Aa2 ca2 hca2 => ⟨fun w h => h.pick [3, 4, 5] _ rfl (by decide), ?_⟩))
          refine ta_float (i := 11) rfl (by kernel_rfl) (wants_none rfl) (yq_of (y_assign (fe_t rfl))) ?_
          refine ta_done (by kernel_rfl) ?_
          refine tx_then ?_
          refine tr_seq ?_
          refine tr_block ?_
          refine tr_loop2 [7, 34, 35, 36, 37, 38, 39, 40, 41] (fun (k : Nat) (q : Vs) => [(7, .slice q.A q.n q.c)]) 0 (fun (k : Nat) (q : Vs) => [(2, vec 5 1 (.slice q.A q.n q.c) q.n q.xs)]) (fun (k : Nat) (q : Vs) => k ≤ m ∧ q.n = 24 + k ∧ q.xs = cB (hdr h (ck h) ++ pb h ++ List.replicate k 0)) (fun (k : Nat) (q : Vs) => m - k) (0) ((⟨_, _, _, _⟩ : Vs)) (cov_cons (by first | rfl | exact v_int (by omega) | exact v_bool (by simp [*])) (cov_nil)) (fun w h => h) ?_ ?_
          · try dsimp only
            exact ⟨by omega, by omega, by rw [hb.2]; simp [cB, pb]⟩
          intro k q hp
          obtain ⟨hk, hqn, hqx⟩ := hp
          refine tr_seq ?_
          refine tr_seq ?_
          refine tr_region ?_
          refine tl_step rfl (oj_val (y_move (fe_t rfl)) ?_)
          refine tl_step rfl (oj_val (y_len Try.underlying39 (fe_t rfl)) ?_)
          refine tl_step rfl (oj_val (y_fieldAddr (td := 3) Try.underlying38 rfl rfl Try.sizeOf3 (o' := 11) rfl (fe_t rfl)) ?_)
          refine tl_step rfl (oj_val (y_ldb 3 Try.isAgg3 (fe_t rfl) rfl rfl) ?_)
          refine tl_step rfl (oj_val (y_lss (fe_t rfl) (fe_t rfl)) ?_)
          refine tl_nil ?_
          refine tx_then ?_
          refine tr_condp (fe_t rfl) (fun hq5 => ?_) (fun hq6 => ?_)
          · try (exfalso; omega)
            all_goals
              refine tr_skip ?_
              refine tx_then ?_
              refine tr_block ?_
              refine tr_region ?_
              refine tl_step rfl (oj_val (y_move (fe_t rfl)) ?_)
              refine tl_step rfl (oj_slice1 Try.underlying39 Try.sizeOf5 Try.zeroValue5 fe_c (by decide) rfl (fun b1 => ?_))
              refine tl_step rfl (oj_append (i := 3) (s := 1) (z := (.int .u8 0)) (bytes := 1) Try.underlying39 (by kernel_rfl) (fe_t rfl) (fe_t rfl) rfl (rdl_blk 0 rfl) rfl (by decide) (by first | exact oneI | exact oneF (fun _ => rfl) | exact fun u hu => List.all_eq_true.1 (show List.all _ (fun x => x.oneCell') = true from rfl) u hu | (intro u hu; revert u hu; simp [Value.oneCell'])) (by decide) ⟨by omega, by decide⟩ (fun Aa3 ca3 hca3 => ?_))
              refine tl_step rfl (oj_val (y_assign (fe_t rfl)) ?_)
              refine tl_nil ?_
              refine tx_in ?_
              apply tx_back2 (k + 1) ((⟨_, _, _, _⟩ : Vs))
              · exact (cov_cons (by first | rfl | exact v_int (by omega) | exact v_bool (by simp [*])) (cov_nil))
              · repeat (first | exact over_nil | refine over_put rfl ?_ | refine over_drop rfl ?_)
              · exact fun w h => h.pick [1, 2, 3, 4, 5, 6] _ rfl (by decide)
              · refine ⟨⟨by omega, by dsimp only; omega, ?_⟩, by omega⟩
                dsimp only
                rw [hqx, List.replicate_succ', ← List.append_assoc, cB_app _ [0]]
                rfl
          · try (exfalso; omega)
            all_goals
              refine tr_exit ?_
              refine tx_then_exit ?_
              refine tx_then_exit ?_
              refine tx_in_exit ?_
              refine tx_then ?_
              refine tr_seq ?_
              refine tr_region ?_
              refine tl_step rfl (oj_val (y_move (fe_t rfl)) ?_)
              refine tl_step rfl (oj_val (y_assign (fe_t rfl)) ?_)
              refine tl_step rfl (oj_val (y_assign fe_c) ?_)
              refine tl_nil ?_
              refine tx_then ?_
              refine tr_ret ?_
              refine tx_ret (res2 Try.results17 (rok_t rfl) (rok_t rfl)) (fun w' hS => ?_)
              obtain rfl : k = m := by omega
              exact ⟨q, ⟨by rw [hwb, hqn]; simp [hdr, pb]; try omega, by rw [hwb]; exact hqx⟩, rfl, hS.pick [2] _ rfl (by decide)⟩
      · exact absurd hp hq4

set_option maxRecDepth 100000 in
set_option maxHeartbeats 4000000 in
theorem ewrite_n (h : Hd) (ho : h.ok) (hw0 : wr h = 0) (hp : ¬ (h.pr = 6 ∨ h.pr = 17)) {m : Nat} (hln : h.ln = (((m + 20) : Nat) : Int)) (w : World) :
    Calls Try.prog 17 #[.agg #[.int .u8 h.s0, .int .u8 h.s1, .int .u8 h.s2, .int .u8 h.s3, .int .u8 h.d0, .int .u8 h.d1, .int .u8 h.d2, .int .u8 h.d3, (.int .i64 h.pr), (.int .i64 h.sp), (.int .i64 h.dp), (.int .i64 h.ln), (.int .i64 h.mr)]] w fun e w' => ∃ q : Vs, (q.n = (wb h).length ∧ q.xs = cB (wb h)) ∧ e = .returned (.tuple #[.slice q.A q.n q.c, (.int .i64 0)]) ∧ St w w' [vec 5 1 (.slice q.A q.n q.c) q.n q.xs] := by
  have hwb := wb_n hp hln
  obtain ⟨hf1, hf2, hf3⟩ := wr_fine hw0
  have hck := ck_bd h
  have hfb := foldI_bd (wsum (hdr h 0))
  refine calls_tr Try.func17 Try.ntmps17 rfl rfl (St.refl _) ?_
  refine tr_seq ?_
  refine tr_region ?_
  refine tl_step rfl (oj_box (fe_t rfl) (fun hb => ?_))
  refine tl_step rfl (oj_val (y_assign fe_c) ?_)
  refine tl_step rfl (oj_val (y_assign fe_c) ?_)
  refine tl_nil ?_
  refine tx_then ?_
  refine tr_seq ?_
  refine tr_seq ?_
  refine tr_region ?_
  refine tl_step rfl (oj_val (y_ldbA 0 Try.isAgg38 Try.sizeOf38 (fe_t rfl) rfl rfl rfl) ?_)
  refine tl_step rfl (oj_callv Try.call21 fe_f (fel_cons (fe_t rfl) fel_nil) (fun w' hS => ewrongE h w') ?_)
  refine tl_step rfl (oj_val (y_assign (fe_t rfl)) ?_)
  refine tl_nil ?_
  refine tx_then ?_
  refine tr_seq ?_
  refine tr_region ?_
  refine tl_step rfl (oj_val (y_move (fe_t rfl)) ?_)
  refine tl_step rfl (oj_val (y_neq (fe_t rfl) fe_c) ?_)
  refine tl_nil ?_
  refine tx_then ?_
  refine tr_condp (fe_t rfl) (fun hq1 => ?_) (fun hq2 => ?_)
  · exact absurd hw0 hq1
  · try (exfalso; omega)
    all_goals
      refine tr_skip ?_
      refine tx_then ?_
      refine tr_seq ?_
      refine tr_region ?_
      refine tl_step rfl (oj_alloc Try.zeroValue106 (fun tb => ?_))
      refine tl_step rfl (oj_store1 0 Try.sizeOf106 (fe_t rfl) fe_f rfl rfl rfl rfl (?_))
      refine tl_nil ?_
      refine tx_then ?_
      refine tr_seq ?_
      refine tr_region ?_
      refine tl_step rfl (oj_val (y_makeFunc (fel_cons (fe_t rfl) (fel_cons (fe_t rfl) fel_nil))) ?_)
      refine tl_step rfl (oj_val (y_assign (fe_t rfl)) ?_)
      refine tl_nil ?_
      refine tx_then ?_
      refine tr_seq ?_
      have hce : 65535 - foldI (wsum (hdr h 0)) = ck h := rfl
      refine tr_region ?_
      refine tl_step rfl (oj_val (y_move (fe_t rfl)) ?_)
      refine tl_step rfl (oj_val (y_move (fe_t rfl)) ?_)
      refine tl_step rfl (oj_callF Try.call55 (fe_t rfl) (fel_cons fe_c fel_nil) (fun w' hS => layE h (0) (by omega) (by omega) hw0 (hS.pick [1, 0] [_, _] rfl (by decide))) (fun a ha => ?_))
      refine tl_step rfl (oj_callv Try.call56 fe_f (fel_cons (fe_t rfl) fel_nil) (fun w' hS => dofE _ _ _ (hdr h 0) w' ((rdl_vec 0 rfl) w' hS) ha.2 ha.1.symm (hdr_by ho hw0 (by decide) (by decide)) (by omega)) ?_)
      refine tl_step rfl (oj_val (y_sub fe_c (fe_t rfl) (by omega)) ?_)
      refine tl_step rfl (oj_callF Try.call55 (fe_t rfl) (fel_cons (fe_t rfl) fel_nil) (fun w' hS => layE h (ck h) (by omega) (by omega) hw0 (hS.pick [1, 2, 0] [_, _, _] rfl (by decide))) (fun b hb => ?_))
      refine tl_step rfl (oj_val (y_assign (fe_t rfl)) ?_)
      refine tl_nil ?_
      refine tx_then ?_
      refine tr_seq ?_
      refine tr_seq ?_
      refine tr_region ?_
      refine tl_step rfl (oj_val (y_fieldAddr (td := 3) Try.underlying38 rfl rfl Try.sizeOf3 (o' := 8) rfl (fe_t rfl)) ?_)
      refine tl_step rfl (oj_val (y_ldb 1 Try.isAgg3 (fe_t rfl) rfl rfl) ?_)
      refine tl_step rfl (oj_callv Try.call57 fe_f (fel_cons (fe_t rfl) fel_nil) (fun w' hS => eportsE h.pr w') ?_)
      refine tl_nil ?_
      refine tx_then ?_
      refine tr_condp (fe_t rfl) (fun hq3 => ?_) (fun hq4 => ?_)
      · exact absurd hq3 hp
      · try (exfalso; omega)
        all_goals
          refine tr_skip ?_
          refine tx_then ?_
          refine tr_seq ?_
          refine tr_block ?_
          refine tr_loop2 [7, 34, 35, 36, 37, 38, 39, 40, 41] (fun (k : Nat) (q : Vs) => [(7, .slice q.A q.n q.c)]) 0 (fun (k : Nat) (q : Vs) => [(0, vec 5 1 (.slice q.A q.n q.c) q.n q.xs)]) (fun (k : Nat) (q : Vs) => k ≤ m ∧ q.n = 20 + k ∧ q.xs = cB (hdr h (ck h) ++ List.replicate k 0)) (fun (k : Nat) (q : Vs) => m - k) (0) ((⟨_, _, _, _⟩ : Vs)) (cov_cons (by first | rfl | exact v_int (by omega) | exact v_bool (by simp [*])) (cov_nil)) (fun w h => h) ?_ ?_
          · try dsimp only
            exact ⟨by omega, by omega, by rw [hb.2]; simp [cB]⟩
          intro k q hp
          obtain ⟨hk, hqn, hqx⟩ := hp
          refine tr_seq ?_
          refine tr_seq ?_
          refine tr_region ?_
          refine tl_step rfl (oj_val (y_move (fe_t rfl)) ?_)
          refine tl_step rfl (oj_val (y_len Try.underlying39 (fe_t rfl)) ?_)
          refine tl_step rfl (oj_val (y_fieldAddr (td := 3) Try.underlying38 rfl rfl Try.sizeOf3 (o' := 11) rfl (fe_t rfl)) ?_)
          refine tl_step rfl (oj_val (y_ldb 1 Try.isAgg3 (fe_t rfl) rfl rfl) ?_)
          refine tl_step rfl (oj_val (y_lss (fe_t rfl) (fe_t rfl)) ?_)
          refine tl_nil ?_
          refine tx_then ?_
          refine tr_condp (fe_t rfl) (fun hq5 => ?_) (fun hq6 => ?_)
          · try (exfalso; omega)
            all_goals
              refine tr_skip ?_
              refine tx_then ?_
              refine tr_block ?_
              refine tr_region ?_
              refine tl_step rfl (oj_val (y_move (fe_t rfl)) ?_)
              refine tl_step rfl (oj_slice1 Try.underlying39 Try.sizeOf5 Try.zeroValue5 fe_c (by decide) rfl (fun b1 => ?_))
              refine tl_step rfl (oj_append (i := 1) (s := 1) (z := (.int .u8 0)) (bytes := 1) Try.underlying39 (by kernel_rfl) (fe_t rfl) (fe_t rfl) rfl (rdl_blk 0 rfl) rfl (by decide) (by first | exact oneI | exact oneF (fun _ => rfl) | exact fun u hu => List.all_eq_true.1 (show List.all _ (fun x => x.oneCell') = true from rfl) u hu | (intro u hu; revert u hu; simp [Value.oneCell'])) (by decide) ⟨by omega, by decide⟩ (fun Aa1 ca1 hca1 => ?_))
              refine tl_step rfl (oj_val (y_assign (fe_t rfl)) ?_)
              refine tl_nil ?_
              refine tx_in ?_
              apply tx_back2 (k + 1) ((⟨_, _, _, _⟩ : Vs))
              · exact (cov_cons (by first | rfl | exact v_int (by omega) | exact v_bool (by simp [*])) (cov_nil))
              · repeat (first | exact over_nil | refine over_put rfl ?_ | refine over_drop rfl ?_)
              · exact fun w h => h.pick [1, 2, 3, 4] _ rfl (by decide)
              · refine ⟨⟨by omega, by dsimp only; omega, ?_⟩, by omega⟩
                dsimp only
                rw [hqx, List.replicate_succ', ← List.append_assoc, cB_app _ [0]]
                rfl
          · try (exfalso; omega)
            all_goals
              refine tr_exit ?_
              refine tx_then_exit ?_
              refine tx_then_exit ?_
              refine tx_in_exit ?_
              refine tx_then ?_
              refine tr_seq ?_
              refine tr_region ?_
              refine tl_step rfl (oj_val (y_move (fe_t rfl)) ?_)
              refine tl_step rfl (oj_val (y_assign (fe_t rfl)) ?_)
              refine tl_step rfl (oj_val (y_assign fe_c) ?_)
              refine tl_nil ?_
              refine tx_then ?_
              refine tr_ret ?_
              refine tx_ret (res2 Try.results17 (rok_t rfl) (rok_t rfl)) (fun w' hS => ?_)
              obtain rfl : k = m := by omega
              exact ⟨q, ⟨by rw [hwb, hqn]; simp [hdr, pb]; try omega, by rw [hwb]; exact hqx⟩, rfl, hS.pick [0] _ rfl (by decide)⟩

set_option maxRecDepth 100000 in
set_option maxHeartbeats 4000000 in
theorem ewrite_bad (h : Hd) (hw0 : wr h ≠ 0) (w : World) :
    Calls Try.prog 17 #[.agg #[.int .u8 h.s0, .int .u8 h.s1, .int .u8 h.s2, .int .u8 h.s3, .int .u8 h.d0, .int .u8 h.d1, .int .u8 h.d2, .int .u8 h.d3, (.int .i64 h.pr), (.int .i64 h.sp), (.int .i64 h.dp), (.int .i64 h.ln), (.int .i64 h.mr)]] w fun e w' => e = .returned (.tuple #[.slice none 0 0, (.int .i64 (wr h))]) ∧ St w w' [] := by
  refine calls_tr Try.func17 Try.ntmps17 rfl rfl (St.refl _) ?_
  refine tr_seq ?_
  refine tr_region ?_
  refine tl_step rfl (oj_box (fe_t rfl) (fun hb => ?_))
  refine tl_step rfl (oj_val (y_assign fe_c) ?_)
  refine tl_step rfl (oj_val (y_assign fe_c) ?_)
  refine tl_nil ?_
  refine tx_then ?_
  refine tr_seq ?_
  refine tr_seq ?_
  refine tr_region ?_
  refine tl_step rfl (oj_val (y_ldbA 0 Try.isAgg38 Try.sizeOf38 (fe_t rfl) rfl rfl rfl) ?_)
  refine tl_step rfl (oj_callv Try.call21 fe_f (fel_cons (fe_t rfl) fel_nil) (fun w' hS => ewrongE h w') ?_)
  refine tl_step rfl (oj_val (y_assign (fe_t rfl)) ?_)
  refine tl_nil ?_
  refine tx_then ?_
  refine tr_seq ?_
  refine tr_region ?_
  refine tl_step rfl (oj_val (y_move (fe_t rfl)) ?_)
  refine tl_step rfl (oj_val (y_neq (fe_t rfl) fe_c) ?_)
  refine tl_nil ?_
  refine tx_then ?_
  refine tr_condp (fe_t rfl) (fun hq1 => ?_) (fun hq2 => ?_)
  · try (exfalso; omega)
    all_goals
      refine tr_seq ?_
      refine tr_region ?_
      refine tl_step rfl (oj_val (y_move (fe_t rfl)) ?_)
      refine tl_step rfl (oj_val (y_assign fe_c) ?_)
      refine tl_step rfl (oj_val (y_assign (fe_t rfl)) ?_)
      refine tl_nil ?_
      refine tx_then ?_
      refine tr_ret ?_
      refine tx_then_ret ?_
      refine tx_ret (res2 Try.results17 (rok_t rfl) (rok_t rfl)) (fun w' hS => ?_)
      exact ⟨rfl, hS.pick [] _ rfl (by decide)⟩
  · exact absurd (Decidable.not_not.1 hq2) hw0

theorem ewriteE (h : Hd) (ho : h.ok) (hw0 : wr h = 0) (w : World) : Calls Try.prog 17 #[.agg #[.int .u8 h.s0, .int .u8 h.s1, .int .u8 h.s2, .int .u8 h.s3, .int .u8 h.d0, .int .u8 h.d1, .int .u8 h.d2, .int .u8 h.d3, (.int .i64 h.pr), (.int .i64 h.sp), (.int .i64 h.dp), (.int .i64 h.ln), (.int .i64 h.mr)]] w fun e w' => ∃ q : Vs, (q.n = (wb h).length ∧ q.xs = cB (wb h)) ∧ e = .returned (.tuple #[.slice q.A q.n q.c, (.int .i64 0)]) ∧ St w w' [vec 5 1 (.slice q.A q.n q.c) q.n q.xs] := by
  obtain ⟨hf1, hf2, hf3⟩ := wr_fine hw0
  by_cases hp : h.pr = 6 ∨ h.pr = 17
  · exact ewrite_p h ho hw0 hp (m := h.ln.toNat - 24) (by omega) w
  · exact ewrite_n h ho hw0 hp (m := h.ln.toNat - 20) (by omega) w

end Go.Proofs.Ytpknjfeiiaopgaa.Head
