/- Walks: words. -/
import Derived.Test.YtfcpmcdlgkfolaaDoorBnE
import Derived.Test.YtfcpmcdlgkfolaaDoorEV
namespace Go.Proofs.YtfcpmcdlgkfolaaDoor.Bn
open Go.RowKit Go.Lib Go.Proofs.YtfcpmcdlgkfolaaDoor.E

set_option maxRecDepth 100000 in
set_option maxHeartbeats 2000000 in
theorem zwordsE (l : List UInt8) (hl : l.length ≤ 1000000000) (w : World) :
    Calls Tryd.prog 42 #[str l] w fun e w' => ∃ q : Vs, (q.n = (wds 32 l).length ∧ q.xs = (wds 32 l).map str) ∧ e = .returned (.slice q.A q.n q.c) ∧ St w w' [vec 9 1 (.slice q.A q.n q.c) q.n q.xs] := by
  refine calls_tr Tryd.func42 Tryd.ntmps42 rfl rfl (St.refl _) ?_
  refine tr_seq ?_
  refine tr_region ?_
  refine tl_step rfl (oj_val (y_assign fe_c) ?_)
  refine tl_nil ?_
  refine tx_then ?_
  refine tr_seq ?_
  refine tr_region ?_
  refine tl_step rfl (oj_slice1V Tryd.underlying32 Tryd.sizeOf9 Tryd.zeroValue9 fe_c rfl (fun g_wv => ?_))
  refine tl_step rfl (oj_val (y_assign (fe_t rfl)) ?_)
  refine tl_nil ?_
  refine tx_then ?_
  refine tr_seq ?_
  refine tr_seq ?_
  refine tr_region ?_
  refine tl_step rfl (oj_val (y_move (fe_t rfl)) ?_)
  refine tl_step rfl (oj_sbytes Tryd.underlying9 Tryd.underlying96 Tryd.underlying5 (fe_t rfl) (fun g_by1 c_by1 => ?_))
  refine tl_step rfl (oj_val (y_len Tryd.underlying96 (fe_t rfl)) ?_)
  refine tl_step rfl (oj_val (y_move fe_c) ?_)
  refine tl_nil ?_
  refine tx_then ?_
  refine tr_block ?_
  refine tr_loop2 [3, 5, 10, 11, 12, 13, 14, 15, 16, 17, 18, 19, 20, 21, 22, 23, 24, 25, 26, 27, 28, 29, 30] (fun (i : Nat) (z : Vs) => [(10, .int .i64 (i : Int)), (3, .slice z.A z.n z.c)]) 0 (fun (i : Nat) (z : Vs) => [(1, vec 9 1 (.slice z.A z.n z.c) z.n z.xs)]) (fun (i : Nat) (z : Vs) => i ≤ l.length ∧ z.n = (wds 32 (l.take i)).length ∧ z.xs = (wds 32 (l.take i)).map str) (fun (i : Nat) (z : Vs) => l.length - i) (0) (⟨_, _, _, _⟩ : Vs) (cov_cons (by first | rfl | exact v_int (by omega) | exact v_bool (by simp [*])) (cov_cons (by first | rfl | exact v_int (by omega) | exact v_bool (by simp [*])) (cov_nil))) (fun w h => h) ?_ ?_
  · try dsimp only
    exact ⟨by omega, rfl, rfl⟩
  intro i z hp
  obtain ⟨hi, hzn, hzx⟩ := hp
  refine tr_seq ?_
  refine tr_region ?_
  refine tl_step rfl (oj_val (y_lss (fe_t rfl) (fe_t rfl)) ?_)
  refine tl_nil ?_
  refine tx_then ?_
  refine tr_seq ?_
  refine tr_condp (fe_t rfl) (fun hq1 => ?_) (fun hq2 => ?_)
  · refine tr_skip ?_
    refine tx_then ?_
    refine tr_seq ?_
    refine tr_block ?_
    refine tr_seq ?_
    have hne := List.length_pos_iff.2 (wds_ne 32 (l.take i))
    have hwl := wds_len 32 (l.take i)
    rw [List.length_take] at hwl
    refine tr_region ?_
    refine tl_step rfl (oj_val (y_index Tryd.underlying96 Tryd.sizeOf5 (fe_t rfl) (fe_t rfl) (rdl_rdo 0 rfl) (by rw [bC_len, Nat.mul_one]) (by decide) (by omega) (Nat.mul_one _)) ?_)
    refine tl_step rfl (oj_val (y_ld Tryd.isAgg5 (fe_t rfl) (rdl_rdo 0 rfl) (bC_get (by omega))) ?_)
    refine tl_step rfl (oj_val (y_assign (fe_t rfl)) ?_)
    refine tl_nil ?_
    refine tx_then ?_
    refine tr_seq ?_
    refine tr_region ?_
    refine tl_step rfl (oj_val (y_move (fe_t rfl)) ?_)
    refine tl_step rfl (oj_val (y_eq (fe_t rfl) fe_c) ?_)
    refine tl_nil ?_
    refine tx_then ?_
    refine tr_condp (fe_t rfl) (fun hq3 => ?_) (fun hq4 => ?_)
    · refine tr_region ?_
      refine tl_step rfl (oj_val (y_move (fe_t rfl)) ?_)
      refine tl_step rfl (oj_slice1 Tryd.underlying32 Tryd.sizeOf9 Tryd.zeroValue9 fe_c (by decide) rfl (fun b1 => ?_))
      refine tl_step rfl (oj_append (i := 2) (s := 1) (z := (.string (ByteArray.mk #[]))) (bytes := 16) Tryd.underlying32 (by kernel_rfl) (fe_t rfl) (fe_t rfl) rfl (rdl_blk 0 rfl) rfl (by decide) (by first | exact oneI | exact oneF (fun _ => rfl) | exact fun u hu => List.all_eq_true.1 (show List.all _ (fun x => x.oneCell') = true from rfl) u hu | (intro u hu; revert u hu; simp [Value.oneCell'])) (by decide) ⟨by omega, by decide⟩ (fun Aa1 ca1 hca1 => ?_))
      refine tl_step rfl (oj_val (y_assign (fe_t rfl)) ?_)
      refine tl_nil ?_
      refine tx_in ?_
      refine tx_then ?_
      refine tr_region ?_
      refine tl_step rfl (oj_val (y_inc (fe_t rfl) fe_c (by omega)) ?_)
      refine tl_step rfl (oj_val (y_move (fe_t rfl)) ?_)
      refine tl_nil ?_
      apply tx_back2 (i + 1) ((⟨_, _, _, _⟩ : Vs))
      · exact (cov_cons (by first | rfl | exact v_int (by omega) | exact v_bool (by simp [*])) (cov_cons (by first | rfl | exact v_int (by omega) | exact v_bool (by simp [*])) (cov_nil)))
      · repeat (first | exact over_nil | refine over_put rfl ?_ | refine over_drop rfl ?_)
      · exact fun w h => h.pick [1, 2] _ rfl (by decide)
      · have hb : l[i] = 32 := UInt8.toNat_inj.1 (show l[i].toNat = (32 : UInt8).toNat by simp; omega)
        rw [wds_next (show i < l.length by omega), wadd_sep hb]
        exact ⟨⟨by omega, by simp [hzn], by simp [hzx]; rfl⟩, by omega⟩
    · refine tb_draw 11 (sel _ [0]) (fun w h => h.sel _ rfl (by decide)) rfl ?_
      refine tb_float (i := 0) rfl (by kernel_rfl) rfl (wants_none rfl) (yq_of (y_move (fe_t rfl))) ?_
      refine tb_float (i := 1) rfl (by kernel_rfl) rfl (wants_none rfl) (yq_of (y_move (fe_t rfl))) ?_
      refine tb_float (i := 2) rfl (by kernel_rfl) rfl (wants_none rfl) (yq_of (y_len Tryd.underlying32 (fe_t rfl))) ?_
      refine tb_float (i := 3) rfl (by kernel_rfl) rfl (wants_none rfl) (yq_of (y_subq (c := ((z.n - 1 : Nat) : Int)) (fe_t rfl) fe_c (by rw [IntWalk.i64_in _ (by omega)]; omega))) ?_
      refine tb_float1 (i := 4) rfl (by kernel_rfl) (by kernel_rfl) rfl (wants_none rfl) (yq_of (y_index Tryd.underlying32 Tryd.sizeOf9 (fe_t rfl) (fe_t rfl) (rdl_vec 1 rfl) (by rw [hzx, List.length_map, hzn, Nat.mul_one]) (by decide) (by omega) (Nat.mul_one _))) ?_
      refine tb_float1 (i := 5) rfl (by kernel_rfl) (by kernel_rfl) rfl (wants_none rfl) (yq_of (y_ld Tryd.isAgg9 (fe_t rfl) (rdl_vec 1 rfl) (by rw [hzx, hzn]; exact getS (ws := wds 32 (l.take i)) (k := (wds 32 (l.take i)).length - 1) (by omega)))) ?_
      refine tb_float (i := 6) rfl (by kernel_rfl) rfl (wants_none rfl) (yq_of (y_move (fe_t rfl))) ?_
      refine tb_one1 (i := 7) rfl (by kernel_rfl) (by kernel_rfl) (wants_none rfl) (oj_slice1 Tryd.underlying96 Tryd.sizeOf5 Tryd.zeroValue5 (fe_t rfl) (by decide) rfl (fun b1 => ⟨fun w h => h.pick [1, 2] _ rfl (by decide), ?_⟩))
      refine tb_one1 (i := 8) rfl (by kernel_rfl) (by kernel_rfl) (wants_none rfl) (oj_val (y_b1 0 Tryd.underlying96 Tryd.underlying5 Tryd.underlying9 (fe_t rfl) rfl) (⟨fun w h => h.pick [1, 2] _ rfl (by decide), ?_⟩))
      refine tb_float (i := 9) rfl (by kernel_rfl) rfl (wants_none rfl) (yq_of (y_cat (fe_t rfl) (fe_t rfl) (by simp; have := wds_at (c := 32) (l := l.take i) ((wds 32 (l.take i)).length - 1); rw [List.length_take] at this; simp at this; omega))) ?_
      refine tb_float1 (i := 10) rfl (by kernel_rfl) (by kernel_rfl) rfl (wants_none rfl) (yq_of (y_index Tryd.underlying32 Tryd.sizeOf9 (fe_t rfl) (fe_t rfl) (rdl_vec 1 rfl) (by rw [hzx, List.length_map, hzn, Nat.mul_one]) (by decide) (by omega) (Nat.mul_one _))) ?_
      refine tb_one2 (i := 11) rfl (by kernel_rfl) (by kernel_rfl) (wants_none rfl) (oj_storeE1 (i := 2) Tryd.sizeOf9 (fe_t rfl) (fe_t rfl) rfl rfl rfl (by omega) (⟨fun w h => h.pick [1] _ rfl (by decide), ?_⟩))
      refine tb_done (by kernel_rfl) ?_
      refine tx_in ?_
      refine tx_then ?_
      refine tr_region ?_
      refine tl_step rfl (oj_val (y_inc (fe_t rfl) fe_c (by omega)) ?_)
      refine tl_step rfl (oj_val (y_move (fe_t rfl)) ?_)
      refine tl_nil ?_
      apply tx_back2 (i + 1) ((⟨z.A, z.n, z.c, z.xs.set (z.n - 1) (str ((wds 32 (l.take i)).getD ((wds 32 (l.take i)).length - 1) [] ++ [l[i]]))⟩ : Vs))
      · exact (cov_cons (by first | rfl | exact v_int (by omega) | exact v_bool (by simp [*])) (cov_cons (by first | rfl | exact v_int (by omega) | exact v_bool (by simp [*])) (cov_nil)))
      · repeat (first | exact over_nil | refine over_put rfl ?_ | refine over_drop rfl ?_)
      · exact fun w h => h.pick [1, 2] _ rfl (by decide)
      · have hb : ¬ l[i] = 32 := fun e => ‹¬ ((l[i].toNat : Nat) : Int) = 32› (by rw [e]; rfl)
        obtain ⟨h1, h2⟩ := wadd_byte (ws := wds 32 (l.take i)) hb
        rw [wds_next (show i < l.length by omega)]
        exact ⟨⟨by omega, by rw [h2]; exact hzn, by dsimp only; rw [h1, ← hzx, hzn]⟩, by omega⟩
  · refine tr_exit ?_
    refine tx_then_exit ?_
    refine tx_then_exit ?_
    refine tx_in_exit ?_
    refine tx_then ?_
    refine tr_seq ?_
    refine tr_region ?_
    refine tl_step rfl (oj_val (y_move (fe_t rfl)) ?_)
    refine tl_step rfl (oj_val (y_assign (fe_t rfl)) ?_)
    refine tl_nil ?_
    refine tx_then ?_
    refine tr_ret ?_
    refine tx_ret (res1 Tryd.results42 (rok_t rfl)) (fun w' hS => ?_)
    obtain rfl : i = l.length := by omega
    rw [List.take_length] at hzn hzx
    exact ⟨z, ⟨hzn, hzx⟩, rfl, hS.pick [1] _ rfl (by decide)⟩

end Go.Proofs.YtfcpmcdlgkfolaaDoor.Bn
