/- Walks: the words, the first line. -/
import Derived.Test.YtfcpmcdlgkfolaaDoorBnA
import Derived.Test.YtfcpmcdlgkfolaaDoorBnQ
import Derived.Test.YtfcpmcdlgkfolaaDoorEJ
namespace Go.Proofs.YtfcpmcdlgkfolaaDoor.Bn
open Go.RowKit Go.Lib Go.Proofs.YtfcpmcdlgkfolaaDoor.E

set_option maxRecDepth 100000 in
theorem wordsE (w : World) :
    Calls Tryd.prog 36 #[] w fun e w' => ∃ q : Vs, (q.n = 3 ∧ q.xs = kwds.map str) ∧ e = .returned (.slice q.A q.n q.c) ∧ St w w' [vec 9 1 (.slice q.A q.n q.c) q.n q.xs] := by
  refine calls_tr Tryd.func36 Tryd.ntmps36 rfl rfl (St.refl _) ?_
  refine tr_seq ?_
  refine tr_region ?_
  refine tl_step rfl (oj_val (y_assign fe_c) ?_)
  refine tl_nil ?_
  refine tx_then ?_
  refine tr_seq ?_
  refine tr_region ?_
  refine tl_step rfl (oj_lit3 Tryd.underlying32 Tryd.sizeOf9 Tryd.zeroValue9 rfl fe_c fe_c fe_c rfl rfl rfl (fun g_wv => ?_))
  refine tl_step rfl (oj_val (y_assign (fe_t rfl)) ?_)
  refine tl_nil ?_
  refine tx_then ?_
  refine tr_ret ?_
  refine tx_ret (res1 Tryd.results36 (rok_t rfl)) (fun w' hS => ?_)
  exact ⟨⟨_, 3, 3, _⟩, ⟨rfl, rfl⟩, rfl, hS.pick [0] _ rfl (by decide)⟩

set_option maxRecDepth 100000 in
theorem smallE (n : Int) (w : World) :
    Calls Tryd.prog 34 #[(.int .i64 n)] w fun e w' => e = .returned (.bool (decide (0 ≤ n ∧ n ≤ 1099511627776))) ∧ St w w' [] := by
  refine calls_tr Tryd.func34 Tryd.ntmps34 rfl rfl (St.refl _) ?_
  refine tr_seq ?_
  refine tr_region ?_
  refine tl_step rfl (oj_val (y_assign fe_c) ?_)
  refine tl_nil ?_
  refine tx_then ?_
  refine tr_seq ?_
  refine tr_region ?_
  refine tl_step rfl (oj_val (y_move (fe_t rfl)) ?_)
  refine tl_step rfl (oj_val (y_geq (fe_t rfl) fe_c) ?_)
  refine tl_step rfl (oj_val (y_move (fe_t rfl)) ?_)
  refine tl_splitp (d := 5) rfl (fun hq1 => ?_) (fun hq2 => ?_)
  · refine tl_want rfl rfl rfl (oj_val (y_move (fe_t rfl)) ?_)
    refine tl_want rfl rfl rfl (oj_val (y_leq (fe_t rfl) fe_c) ?_)
    refine tl_step rfl (oj_val (y_pickt (fe_t rfl) (fe_t rfl)) ?_)
    refine tl_step rfl (oj_val (y_assign (fe_t rfl)) ?_)
    refine tl_nil ?_
    refine tx_then ?_
    refine tr_ret ?_
    refine tx_ret (res1 Tryd.results34 (rok_t rfl)) (fun w' hS => ?_)
    exact ⟨ret_bool (by first | exact decide_eq_decide.2 ⟨fun h => by omega, fun h => by omega⟩ | exact (decide_eq_false (by omega)).symm), hS.pick [] _ rfl (by decide)⟩
  · refine tl_skip rfl rfl rfl rfl ?_
    refine tl_skip rfl rfl rfl rfl ?_
    refine tl_step rfl (oj_val (y_pickf (fe_t rfl) fe_c) ?_)
    refine tl_step rfl (oj_val (y_assign (fe_t rfl)) ?_)
    refine tl_nil ?_
    refine tx_then ?_
    refine tr_ret ?_
    refine tx_ret (res1 Tryd.results34 (rok_t rfl)) (fun w' hS => ?_)
    exact ⟨ret_bool (by first | exact decide_eq_decide.2 ⟨fun h => by omega, fun h => by omega⟩ | exact (decide_eq_false (by omega)).symm), hS.pick [] _ rfl (by decide)⟩

set_option maxRecDepth 100000 in
set_option maxHeartbeats 2000000 in
theorem headE {w0 w : World} {T : List Res} {b : Nat} {s : Sc} {z : Vs} (hw : Gw w0) (hS : St w0 w (blk b (cSc s (.slice z.A z.n z.c)) :: vec 52 2 (.slice z.A z.n z.c) z.n z.xs :: T)) (hz : OpsIs z s.ops) (l : List UInt8) (hl : l.length < 4294967281) :
    Calls Tryd.prog 39 #[str l, .pointer (some ⟨b, 0, none⟩)] w fun e w' => ∃ q : Bool × Sc × Vs, (OpsIs q.2.2 q.2.1.ops ∧ read 0 s l = if q.1 = true then some q.2.1 else none) ∧ e = .returned (.bool q.1) ∧ St w0 w' (blk b (cSc q.2.1 (.slice q.2.2.A q.2.2.n q.2.2.c)) :: vec 52 2 (.slice q.2.2.A q.2.2.n q.2.2.c) q.2.2.n q.2.2.xs :: T) := by
  refine calls_tr Tryd.func39 Tryd.ntmps39 rfl rfl hS ?_
  refine tr_seq ?_
  refine tr_region ?_
  refine tl_step rfl (oj_val (y_assign fe_c) ?_)
  refine tl_nil ?_
  refine tx_then ?_
  refine tr_seq ?_
  refine tr_region ?_
  refine tl_step rfl (oj_val (y_move (fe_t rfl)) ?_)
  refine tl_step rfl (oj_call Tryd.call67 fe_f (fel_cons (fe_t rfl) (fel_cons fe_c fel_nil)) (fun w' hS => splitE (hw.st hS) l 32 hl) (fun r0 hr0 => ?_))
  refine tl_step rfl (oj_val (y_assign (fe_t rfl)) ?_)
  refine tl_nil ?_
  refine tx_then ?_
  refine tr_seq ?_
  refine tr_seq ?_
  refine tr_region ?_
  refine tl_step rfl (oj_val (y_move (fe_t rfl)) ?_)
  refine tl_step rfl (oj_val (y_len Tryd.underlying32 (fe_t rfl)) ?_)
  refine tl_step rfl (oj_val (y_neq (fe_t rfl) fe_c) ?_)
  refine tl_step rfl (oj_val (y_move (fe_t rfl)) ?_)
  refine tl_splitp (d := 15) rfl (fun hq1 => ?_) (fun hq2 => ?_)
  · refine tl_skip rfl rfl rfl rfl ?_
    refine tl_skip rfl rfl rfl rfl ?_
    refine tl_skip rfl rfl rfl rfl ?_
    refine tl_skip rfl rfl rfl rfl ?_
    refine tl_step rfl (oj_val (y_pickt (fe_t rfl) fe_c) ?_)
    refine tl_nil ?_
    refine tx_then ?_
    refine tr_condt (fe_t rfl) ?_
    refine tr_seq ?_
    refine tr_region ?_
    refine tl_step rfl (oj_val (y_assign fe_c) ?_)
    refine tl_nil ?_
    refine tx_then ?_
    refine tr_ret ?_
    refine tx_then_ret ?_
    refine tx_ret (res1 Tryd.results39 (rok_t rfl)) (fun w' hS => ?_)
    exact ⟨(false, s, z), ⟨hz, read_len (by rw [← hr0.1]; omega) s⟩, rfl, pickT (l := [_, _, _]) hS [1, 2] rfl (by decide)⟩
  · refine tl_want rfl rfl rfl (oj_val (y_move (fe_t rfl)) ?_)
    refine tl_want rfl rfl rfl (oj_val (y_indexI (m := 0) Tryd.underlying32 Tryd.sizeOf9 (fe_t rfl) fe_c (rdl_vec 0 rfl) (by rw [hr0.2, List.length_map, hr0.1, Nat.mul_one]) (by decide) (by decide) (by omega) rfl) ?_)
    refine tl_want rfl rfl rfl (oj_val (y_ld Tryd.isAgg9 (fe_t rfl) (rdl_vec 0 rfl) (by rw [hr0.2]; exact getS (ws := wds 32 l) (by omega))) ?_)
    refine tl_want rfl rfl rfl (oj_val (y_nes (fe_t rfl) fe_c) ?_)
    refine tl_step rfl (oj_val (y_pickf (fe_t rfl) (fe_t rfl)) ?_)
    refine tl_nil ?_
    refine tx_then ?_
    refine tr_condp (fe_t rfl) (fun hq3 => ?_) (fun hq4 => ?_)
    · refine tr_seq ?_
      refine tr_region ?_
      refine tl_step rfl (oj_val (y_assign fe_c) ?_)
      refine tl_nil ?_
      refine tx_then ?_
      refine tr_ret ?_
      refine tx_then_ret ?_
      refine tx_ret (res1 Tryd.results39 (rok_t rfl)) (fun w' hS => ?_)
      exact ⟨(false, s, z), ⟨hz, read_rate (by simpa using ‹_›) s⟩, rfl, pickT (l := [_, _, _]) hS [1, 2] rfl (by decide)⟩
    · refine tr_skip ?_
      refine tx_then ?_
      refine tr_seq ?_
      refine tr_seq ?_
      have hwl4 : (wds 32 l).length = 4 := by rw [← hr0.1]; omega
      have hw0 : (wds 32 l).getD 0 [] = sRate := Classical.not_not.1 ‹¬¬(wds 32 l).getD 0 [] = [114, 97, 116, 101]›
      refine tb_draw 12 (sel _ [0, 1, 2]) (fun w h => h.sel _ rfl (by decide)) rfl ?_
      refine tb_float (i := 0) rfl (by kernel_rfl) rfl (wants_none rfl) (yq_of (y_move (fe_t rfl))) ?_
      refine tb_float (i := 1) rfl (by kernel_rfl) rfl (wants_none rfl) (yq_of (y_nilCheck (fe_t rfl))) ?_
      refine tb_float (i := 2) rfl (by kernel_rfl) rfl (wants_none rfl) (yq_of (y_fieldAddr (td := 3) Tryd.underlying24 rfl rfl Tryd.sizeOf3 (o' := 0) rfl (fe_t rfl))) ?_
      refine tb_float (i := 3) rfl (by kernel_rfl) rfl (wants_none rfl) (yq_of (y_move (fe_t rfl))) ?_
      refine tb_float (i := 4) rfl (by kernel_rfl) rfl (wants_none rfl) (yq_of (y_nilCheck (fe_t rfl))) ?_
      refine tb_float (i := 5) rfl (by kernel_rfl) rfl (wants_none rfl) (yq_of (y_fieldAddr (td := 3) Tryd.underlying24 rfl rfl Tryd.sizeOf3 (o' := 1) rfl (fe_t rfl))) ?_
      refine tb_float (i := 6) rfl (by kernel_rfl) rfl (wants_none rfl) (yq_of (y_move (fe_t rfl))) ?_
      refine tb_float (i := 7) rfl (by kernel_rfl) rfl (wants_none rfl) (yq_of (y_nilCheck (fe_t rfl))) ?_
      refine tb_float (i := 8) rfl (by kernel_rfl) rfl (wants_none rfl) (yq_of (y_fieldAddr (td := 3) Tryd.underlying24 rfl rfl Tryd.sizeOf3 (o' := 2) rfl (fe_t rfl))) ?_
      refine tb_float (i := 11) rfl (by kernel_rfl) rfl (wants_none rfl) (yq_of (y_move fe_c)) ?_
      refine tb_one2 (i := 9) rfl (by kernel_rfl) (by kernel_rfl) (wants_none rfl) (oj_lit3 Tryd.underlying149 Tryd.sizeOf148 Tryd.zeroValue148 rfl (fe_t rfl) (fe_t rfl) (fe_t rfl) rfl rfl rfl (fun g_pv => ⟨fun w h => h.pick [1, 2, 3] _ rfl (by decide), ?_⟩))
      refine tb_float (i := 10) rfl (by kernel_rfl) rfl (wants_none rfl) (yq_of (y_len Tryd.underlying149 (fe_t rfl))) ?_
      refine tb_done (by kernel_rfl) ?_
      refine tx_then ?_
      refine tr_block ?_
      refine tr_loop2 [4, 6, 7, 8, 9, 32, 33, 34, 35, 36, 37, 38, 39, 40, 41, 42, 43, 44, 45, 46, 47, 48, 49, 50, 51] (fun (i : Nat) (cs : List Value) => [(32, .int .i64 (i : Int))]) 0 (fun (i : Nat) (cs : List Value) => [(2, blk b cs)]) (fun (i : Nat) (cs : List Value) => i ≤ 3 ∧ cs = cSc (hcs l s i) (.slice z.A z.n z.c) ∧ ∀ j, j < i → okNum ((wds 32 l).getD (j + 1) []) = true) (fun (i : Nat) (cs : List Value) => 3 - i) (0) (_) (cov_cons (by first | rfl | exact v_int (by omega) | exact v_bool (by simp [*])) (cov_nil)) (fun w h => h) ?_ ?_
      · try dsimp only
        exact ⟨by omega, rfl, fun j h => by omega⟩
      intro i cs hp
      obtain ⟨hi, hcs_, hok⟩ := hp
      refine tr_seq ?_
      refine tr_region ?_
      refine tl_step rfl (oj_val (y_lss (fe_t rfl) (fe_t rfl)) ?_)
      refine tl_nil ?_
      refine tx_then ?_
      refine tr_seq ?_
      refine tr_condp (fe_t rfl) (fun hq5 => ?_) (fun hq6 => ?_)
      · refine tr_skip ?_
        refine tx_then ?_
        refine tr_seq ?_
        refine tr_block ?_
        refine tr_seq ?_
        refine tr_region ?_
        refine tl_step rfl (oj_val (y_move (fe_t rfl)) ?_)
        refine tl_step rfl (oj_val (y_index Tryd.underlying149 Tryd.sizeOf148 (fe_t rfl) (fe_t rfl) (rdl_vec 0 rfl) (rfl) (by decide) (by omega) (Nat.mul_one _)) ?_)
        refine tl_step rfl (oj_val (y_ld Tryd.isAgg148 (fe_t rfl) (rdl_vec 0 rfl) (ptr3 (by omega))) ?_)
        refine tl_step rfl (oj_val (y_assign (fe_t rfl)) ?_)
        refine tl_step rfl (oj_val (y_assign (fe_t rfl)) ?_)
        refine tl_nil ?_
        refine tx_then ?_
        refine tr_seq ?_
        refine tr_region ?_
        refine tl_step rfl (oj_val (y_move (fe_t rfl)) ?_)
        refine tl_step rfl (oj_val (y_move (fe_t rfl)) ?_)
        refine tl_step rfl (oj_val (y_inc (fe_t rfl) fe_c (by omega)) ?_)
        refine tl_step rfl (oj_val (y_index Tryd.underlying32 Tryd.sizeOf9 (fe_t rfl) (fe_t rfl) (rdl_vec 1 rfl) (by rw [hr0.2, List.length_map, hr0.1, Nat.mul_one]) (by decide) (by omega) (Nat.mul_one _)) ?_)
        refine tl_step rfl (oj_val (y_ld Tryd.isAgg9 (fe_t rfl) (rdl_vec 1 rfl) (by rw [hr0.2]; exact getS (ws := wds 32 l) (by omega))) ?_)
        refine tl_step rfl (oj_call Tryd.call68 fe_f (fel_cons (fe_t rfl) fel_nil) (fun w' hS => numberE (hw.st hS) ((wds 32 l).getD (i + 1) []) (by have := wds_at (c := 32) (l := l) (i + 1); omega)) (fun q1 hq1 => ?_))
        refine tl_step rfl (oj_val (y_move (fe_t rfl)) ?_)
        refine tl_step rfl (oj_val (y_extract (fe_t rfl) rfl) ?_)
        refine tl_step rfl (oj_val (y_extract (fe_t rfl) rfl) ?_)
        refine tl_step rfl (oj_val (y_assign (fe_t rfl)) ?_)
        refine tl_step rfl (oj_val (y_assign (fe_t rfl)) ?_)
        refine tl_nil ?_
        refine tx_then ?_
        refine tr_seq ?_
        refine tr_seq ?_
        refine tr_region ?_
        refine tl_step rfl (oj_val (y_move (fe_t rfl)) ?_)
        refine tl_step rfl (oj_val (y_not (fe_t rfl)) ?_)
        refine tl_nil ?_
        refine tx_then ?_
        refine tr_cond (fe_t rfl) (fun hq7 => ?_) (fun hq8 => ?_)
        · have hN : q1.2 = false := by simpa using hq7
          refine tr_seq ?_
          refine tr_region ?_
          refine tl_step rfl (oj_val (y_assign fe_c) ?_)
          refine tl_nil ?_
          refine tx_then ?_
          refine tr_ret ?_
          refine tx_then_ret ?_
          refine tx_in_ret ?_
          refine tx_then_ret ?_
          refine tx_then_ret ?_
          refine tx_in_ret ?_
          refine tx_then_ret ?_
          refine tx_ret (res1 Tryd.results39 (rok_t rfl)) (fun w' hS => ?_)
          obtain rfl := hcs_
          exact ⟨(false, hcs l s i, z), ⟨hz, read_num hwl4 (j := i) (by omega) (by rw [← hq1.1]; exact hN) s⟩, rfl, pickT (l := [_, _, _, _]) hS [2, 3] rfl (by decide)⟩
        · have hN : q1.2 = true := by simpa using hq8
          refine tr_skip ?_
          refine tx_then ?_
          refine tr_region ?_
          refine tl_step rfl (oj_val (y_move (fe_t rfl)) ?_)
          refine tl_step rfl (oj_val (y_move (fe_t rfl)) ?_)
          refine tl_step rfl (oj_val (y_nilCheck (fe_t rfl)) ?_)
          refine tl_step rfl (oj_store1 2 Tryd.sizeOf3 (fe_t rfl) (fe_t rfl) rfl rfl rfl (by rw [hcs_, Nat.blt_eq]; exact (show i < 4 by omega)) (?_))
          refine tl_nil ?_
          refine tx_in ?_
          refine tx_then ?_
          refine tr_region ?_
          refine tl_step rfl (oj_val (y_inc (fe_t rfl) fe_c (by omega)) ?_)
          refine tl_step rfl (oj_val (y_move (fe_t rfl)) ?_)
          refine tl_nil ?_
          apply tx_back2 (i + 1) (_)
          · exact (cov_cons (by first | rfl | exact v_int (by omega) | exact v_bool (by simp [*])) (cov_nil))
          · repeat (first | exact over_nil | refine over_put rfl ?_ | refine over_drop rfl ?_)
          · exact fun w h => h
          · refine ⟨⟨by omega, ?_, fun j hj => ?_⟩, by omega⟩
            · rw [hcs_, hq1.2 hN]; exact cSc_set (by omega)
            · rcases (show j < i ∨ j = i by omega) with hj | rfl
              · exact hok j hj
              · rw [← hq1.1]; exact hN
      · refine tr_exit ?_
        refine tx_then_exit ?_
        refine tx_then_exit ?_
        refine tx_in_exit ?_
        refine tx_then ?_
        refine tr_seq ?_
        refine tr_region ?_
        refine tl_step rfl (oj_val (y_assign fe_c) ?_)
        refine tl_nil ?_
        refine tx_then ?_
        refine tr_ret ?_
        refine tx_ret (res1 Tryd.results39 (rok_t rfl)) (fun w' hS => ?_)
        obtain rfl : i = 3 := by omega
        obtain rfl := hcs_
        exact ⟨(true, hcs l s 3, z), ⟨hz, hcs_ok hwl4 hw0 hok s⟩, rfl, pickT (l := [_, _, _, _]) hS [2, 3] rfl (by decide)⟩

end Go.Proofs.YtfcpmcdlgkfolaaDoor.Bn
