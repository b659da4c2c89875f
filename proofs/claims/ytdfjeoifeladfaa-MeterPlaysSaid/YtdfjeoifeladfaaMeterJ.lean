/- Walk by the engine: JColour, where a packet is coloured. -/
import Derived.Test.YtdfjeoifeladfaaMeterE
import Derived.Test.YtdfjeoifeladfaaEC
namespace Go.Proofs.Ytdfjeoifeladfaa.Meter
open Go.RowKit Go.Proofs.Ytdfjeoifeladfaa.E Go.Proofs.Ytdfjeoifeladfaa.Big

theorem jrightE {C B E F S T : Int} (h : mright C B E F S T = true) (w : World) : Calls Try.prog 18 #[.agg #[(.int .i64 C), (.int .i64 B), (.int .i64 E), (.int .i64 F), (.int .i64 S), (.int .i64 T)]] w fun e w' => e = .returned (.bool true) ∧ St w w' [] := by
  have := jright_any C B E F S T w
  rw [h] at this
  exact of_bel this
theorem nm_small {q : Nm} {v : Int} (h : q.is v) (h0 : -9223372036854775808 ≤ v) (h1 : v ≤ 9223372036854775807) : q.n ≤ 100000 := by
  have hv := h.val
  have h2 : dval q.ds < pw 4 := by
    have := dval_nonneg h.dig
    rw [pw4]
    unfold sg at hv
    split at hv <;> omega
  have h3 := h.trim.len h.dig h2
  have h4 := h.len
  omega
def low (come : Int) : Int := if come < 4194304 then come else 4194304

set_option maxRecDepth 100000 in
set_option maxHeartbeats 4000000 in
theorem jcolour_okE (C B E F S T now b had : Int) (w : World) (h : mright C B E F S T = true) (g0 : 1 ≤ had) (g1 : had ≤ 3) (t0 : T ≤ now) (t1 : now ≤ 1099511627776) (b0 : 0 ≤ b) (b1 : b ≤ 1048576) :
    Calls Try.prog 16 #[.agg #[(.int .i64 C), (.int .i64 B), (.int .i64 E), (.int .i64 F), (.int .i64 S), (.int .i64 T)], .agg #[(.int .i64 now), (.int .i64 b)], (.int .i64 had)] w fun e w' => e = .returned (colV (col ⟨C, B, E, F, S, T⟩ now b had)) ∧ St w w' [] := by
  obtain ⟨⟨c0, c1⟩, ⟨d0, d1⟩, ⟨e0, e1⟩, ⟨f0, f1'⟩, ⟨s0, s1'⟩, u0, u1⟩ := mright_iff.1 h
  have p0 : 0 ≤ C * (now - T) := Int.mul_nonneg c0 (by omega)
  have p1 : C * (now - T) ≤ 1048576 * 1099511627776 := Int.mul_le_mul c1 (by omega) (by omega) (by omega)
  have hcs := col_cases C B E F S T now b had
  obtain ⟨n0, hn0⟩ : ∃ n0, low (C * (now - T)) = n0 := ⟨_, rfl⟩
  have hN : (C * (now - T) < 4194304 ∧ C * (now - T) = n0) ∨ (4194304 ≤ C * (now - T) ∧ 4194304 = n0) := by unfold low at hn0; split at hn0 <;> omega
  obtain ⟨x, hx⟩ : ∃ x, min n0 (B - F) = x := ⟨_, rfl⟩
  obtain ⟨y, hy⟩ : ∃ y, min (n0 - x) (E - S) = y := ⟨_, rfl⟩
  have hF1 : f1 B F (C * (now - T)) = F + x := by unfold f1; split <;> omega
  have hS1 : s1 B F E S (C * (now - T)) = S + y := by unfold s1; split <;> (try split) <;> omega
  rw [hF1, hS1] at hcs
  have hbd : 0 ≤ x ∧ x ≤ B - F ∧ 0 ≤ y ∧ y ≤ E - S ∧ 0 ≤ n0 ∧ n0 ≤ 4194304 ∧ x ≤ n0 ∧ y ≤ n0 - x := by omega
  obtain ⟨v0, v1, v2, v3, v4, v5, v6, v7⟩ := hbd
  generalize hV : colV (col ⟨C, B, E, F, S, T⟩ now b had) = V at hcs
  have Hcs : (had = 1 ∧ b ≤ F + x ∧ V = colV (⟨C, B, E, F + x - b, S + y, now⟩, 1, 0)) ∨ (had = 1 ∧ F + x < b ∧ b ≤ S + y ∧ V = colV (⟨C, B, E, F + x, S + y - b, now⟩, 2, 0)) ∨ (had = 2 ∧ b ≤ S + y ∧ V = colV (⟨C, B, E, F + x, S + y - b, now⟩, 2, 0)) ∨
      (had = 1 ∧ F + x < b ∧ S + y < b ∧ V = colV (⟨C, B, E, F + x, S + y, now⟩, 3, 0)) ∨ (had = 2 ∧ S + y < b ∧ V = colV (⟨C, B, E, F + x, S + y, now⟩, 3, 0)) ∨ (had = 3 ∧ V = colV (⟨C, B, E, F + x, S + y, now⟩, 3, 0)) := by
    rcases hcs with ⟨k1, _⟩ | ⟨_, k1, _⟩ | ⟨_, _, _, k1, _⟩ | ⟨_, _, _, _, k1⟩
    · rw [h] at k1; cases k1
    · omega
    · omega
    rcases k1 with ⟨k1, k2, k3⟩ | ⟨k1 | k1, k2, k3⟩ | ⟨k1 | k1 | k1, k3⟩
    · exact .inl ⟨k1, k2, k3⟩
    · exact .inr (.inl ⟨k1.1, k1.2, k2, k3⟩)
    · exact .inr (.inr (.inl ⟨k1, k2, k3⟩))
    · exact .inr (.inr (.inr (.inl ⟨k1.1, k1.2.1, k1.2.2, k3⟩)))
    · exact .inr (.inr (.inr (.inr (.inl ⟨k1.1, k1.2, k3⟩))))
    · exact .inr (.inr (.inr (.inr (.inr ⟨k1, k3⟩))))
  replace Hcs := Lib.hid Hcs
  clear hV hcs hF1 hS1 hn0
  refine calls_tr Try.func16 Try.ntmps16 rfl rfl (St.refl _) ?_
  refine tr_seq ?_
  refine tr_region ?_
  refine tl_step rfl (oj_box (fe_t rfl) (fun m => ?_))
  refine tl_step rfl (oj_box (fe_t rfl) (fun pk => ?_))
  refine tl_step rfl (oj_alloc Try.zeroValue23 (fun rb => ?_))
  refine tl_step rfl (oj_val (y_assign fe_c) ?_)
  refine tl_step rfl (oj_val (y_assign fe_c) ?_)
  refine tl_nil ?_
  refine tx_then ?_
  refine tr_seq ?_
  refine tr_seq ?_
  refine tr_region ?_
  refine tl_step rfl (oj_val (y_ldbA 2 Try.isAgg23 Try.sizeOf23 (fe_t rfl) rfl rfl rfl) ?_)
  refine tl_step rfl (oj_callv Try.call18 fe_f (fel_cons (fe_t rfl) fel_nil) (fun w' hS => jrightE h w') ?_)
  refine tl_step rfl (oj_val (y_not (fe_t rfl)) ?_)
  refine tl_nil ?_
  refine tx_then ?_
  refine tr_condf (fe_t rfl) ?_
  refine tr_skip ?_
  refine tx_then ?_
  refine tr_seq ?_
  refine tr_seq ?_
  refine tr_region ?_
  refine tl_step rfl (oj_val (y_move (fe_t rfl)) ?_)
  refine tl_step rfl (oj_val (y_lss (fe_t rfl) fe_c) ?_)
  refine tl_step rfl (oj_val (y_move (fe_t rfl)) ?_)
  refine tl_splitp (d := 20) rfl (fun hq1 => ?_) (fun hq2 => ?_)
  · try (first | (exfalso; omega) | (have hk2 : k = 0 ∨ k = 1 := (by omega); rcases hk2 with rfl | rfl))
    all_goals
      refine tl_skip rfl rfl rfl rfl ?_
      refine tl_skip rfl rfl rfl rfl ?_
      refine tl_step rfl (oj_val (y_pickt (fe_t rfl) fe_c) ?_)
      refine tl_nil ?_
      refine tx_then ?_
      exfalso; omega
  · try (first | (exfalso; omega) | (have hk2 : k = 0 ∨ k = 1 := (by omega); rcases hk2 with rfl | rfl))
    all_goals
      refine tl_want rfl rfl rfl (oj_val (y_move (fe_t rfl)) ?_)
      refine tl_want rfl rfl rfl (oj_val (y_gtr (fe_t rfl) fe_c) ?_)
      refine tl_step rfl (oj_val (y_pickf (fe_t rfl) (fe_t rfl)) ?_)
      refine tl_nil ?_
      refine tx_then ?_
      refine tr_condp (fe_t rfl) (fun hq3 => ?_) (fun hq4 => ?_)
      · exfalso; omega
      · try (first | (exfalso; omega) | (have hk2 : k = 0 ∨ k = 1 := (by omega); rcases hk2 with rfl | rfl))
        all_goals
          refine tr_skip ?_
          refine tx_then ?_
          refine tr_seq ?_
          refine tr_seq ?_
          refine tr_region ?_
          refine tl_step rfl (oj_val (y_fieldAddr (td := 3) Try.underlying25 rfl rfl Try.sizeOf3 (o' := 0) rfl (fe_t rfl)) ?_)
          refine tl_step rfl (oj_val (y_ldb 1 Try.isAgg3 (fe_t rfl) rfl rfl) ?_)
          refine tl_step rfl (oj_val (y_fieldAddr (td := 3) Try.underlying23 rfl rfl Try.sizeOf3 (o' := 5) rfl (fe_t rfl)) ?_)
          refine tl_step rfl (oj_val (y_ldb 2 Try.isAgg3 (fe_t rfl) rfl rfl) ?_)
          refine tl_step rfl (oj_val (y_lss (fe_t rfl) (fe_t rfl)) ?_)
          refine tl_step rfl (oj_val (y_move (fe_t rfl)) ?_)
          refine tl_splitp (d := 30) rfl (fun hq5 => ?_) (fun hq6 => ?_)
          · try (first | (exfalso; omega) | (have hk2 : k = 0 ∨ k = 1 := (by omega); rcases hk2 with rfl | rfl))
            all_goals
              refine tl_skip rfl rfl rfl rfl ?_
              refine tl_skip rfl rfl rfl rfl ?_
              refine tl_skip rfl rfl rfl rfl ?_
              refine tl_step rfl (oj_val (y_pickt (fe_t rfl) fe_c) ?_)
              refine tl_step rfl (oj_val (y_move (fe_t rfl)) ?_)
              refine tl_skip rfl rfl rfl rfl ?_
              refine tl_skip rfl rfl rfl rfl ?_
              refine tl_skip rfl rfl rfl rfl ?_
              refine tl_step rfl (oj_val (y_pickt (fe_t rfl) fe_c) ?_)
              refine tl_step rfl (oj_val (y_move (fe_t rfl)) ?_)
              refine tl_skip rfl rfl rfl rfl ?_
              refine tl_skip rfl rfl rfl rfl ?_
              refine tl_skip rfl rfl rfl rfl ?_
              refine tl_step rfl (oj_val (y_pickt (fe_t rfl) fe_c) ?_)
              refine tl_nil ?_
              refine tx_then ?_
              exfalso; omega
          · try (first | (exfalso; omega) | (have hk2 : k = 0 ∨ k = 1 := (by omega); rcases hk2 with rfl | rfl))
            all_goals
              refine tl_want rfl rfl rfl (oj_val (y_fieldAddr (td := 3) Try.underlying25 rfl rfl Try.sizeOf3 (o' := 0) rfl (fe_t rfl)) ?_)
              refine tl_want rfl rfl rfl (oj_val (y_ldb 1 Try.isAgg3 (fe_t rfl) rfl rfl) ?_)
              refine tl_want rfl rfl rfl (oj_val (y_gtr (fe_t rfl) fe_c) ?_)
              refine tl_step rfl (oj_val (y_pickf (fe_t rfl) (fe_t rfl)) ?_)
              refine tl_step rfl (oj_val (y_move (fe_t rfl)) ?_)
              refine tl_splitp (d := 35) rfl (fun hq7 => ?_) (fun hq8 => ?_)
              · try (first | (exfalso; omega) | (have hk2 : k = 0 ∨ k = 1 := (by omega); rcases hk2 with rfl | rfl))
                all_goals
                  refine tl_skip rfl rfl rfl rfl ?_
                  refine tl_skip rfl rfl rfl rfl ?_
                  refine tl_skip rfl rfl rfl rfl ?_
                  refine tl_step rfl (oj_val (y_pickt (fe_t rfl) fe_c) ?_)
                  refine tl_step rfl (oj_val (y_move (fe_t rfl)) ?_)
                  refine tl_skip rfl rfl rfl rfl ?_
                  refine tl_skip rfl rfl rfl rfl ?_
                  refine tl_skip rfl rfl rfl rfl ?_
                  refine tl_step rfl (oj_val (y_pickt (fe_t rfl) fe_c) ?_)
                  refine tl_nil ?_
                  refine tx_then ?_
                  exfalso; omega
              · try (first | (exfalso; omega) | (have hk2 : k = 0 ∨ k = 1 := (by omega); rcases hk2 with rfl | rfl))
                all_goals
                  refine tl_want rfl rfl rfl (oj_val (y_fieldAddr (td := 3) Try.underlying25 rfl rfl Try.sizeOf3 (o' := 1) rfl (fe_t rfl)) ?_)
                  refine tl_want rfl rfl rfl (oj_val (y_ldb 1 Try.isAgg3 (fe_t rfl) rfl rfl) ?_)
                  refine tl_want rfl rfl rfl (oj_val (y_lss (fe_t rfl) fe_c) ?_)
                  refine tl_step rfl (oj_val (y_pickf (fe_t rfl) (fe_t rfl)) ?_)
                  refine tl_step rfl (oj_val (y_move (fe_t rfl)) ?_)
                  refine tl_splitp (d := 40) rfl (fun hq9 => ?_) (fun hq10 => ?_)
                  · try (first | (exfalso; omega) | (have hk2 : k = 0 ∨ k = 1 := (by omega); rcases hk2 with rfl | rfl))
                    all_goals
                      refine tl_skip rfl rfl rfl rfl ?_
                      refine tl_skip rfl rfl rfl rfl ?_
                      refine tl_skip rfl rfl rfl rfl ?_
                      refine tl_step rfl (oj_val (y_pickt (fe_t rfl) fe_c) ?_)
                      refine tl_nil ?_
                      refine tx_then ?_
                      exfalso; omega
                  · try (first | (exfalso; omega) | (have hk2 : k = 0 ∨ k = 1 := (by omega); rcases hk2 with rfl | rfl))
                    all_goals
                      refine tl_want rfl rfl rfl (oj_val (y_fieldAddr (td := 3) Try.underlying25 rfl rfl Try.sizeOf3 (o' := 1) rfl (fe_t rfl)) ?_)
                      refine tl_want rfl rfl rfl (oj_val (y_ldb 1 Try.isAgg3 (fe_t rfl) rfl rfl) ?_)
                      refine tl_want rfl rfl rfl (oj_val (y_gtr (fe_t rfl) fe_c) ?_)
                      refine tl_step rfl (oj_val (y_pickf (fe_t rfl) (fe_t rfl)) ?_)
                      refine tl_nil ?_
                      refine tx_then ?_
                      refine tr_condp (fe_t rfl) (fun hq11 => ?_) (fun hq12 => ?_)
                      · exfalso; omega
                      · try (first | (exfalso; omega) | (have hk2 : k = 0 ∨ k = 1 := (by omega); rcases hk2 with rfl | rfl))
                        all_goals
                          refine tr_skip ?_
                          refine tx_then ?_
                          refine tr_seq ?_
                          refine tr_add (r := dig none 0 0 []) vec_nil rfl ?_
                          refine tr_draw (sel _ [1, 2, 3]) (fun w h => h.sel _ rfl (by decide)) rfl ?_
                          refine ta_float (i := 1) rfl (by kernel_rfl) (wants_none rfl) (yq_of (y_fieldAddr (td := 3) Try.underlying23 rfl rfl Try.sizeOf3 (o' := 0) rfl (fe_t rfl))) ?_
                          refine ta_float (i := 2) rfl (by kernel_rfl) (wants_none rfl) (yq_of (y_ldb 2 Try.isAgg3 (fe_t rfl) rfl rfl)) ?_
                          refine ta_float (i := 4) rfl (by kernel_rfl) (wants_none rfl) (yq_of (y_fieldAddr (td := 3) Try.underlying25 rfl rfl Try.sizeOf3 (o' := 0) rfl (fe_t rfl))) ?_
                          refine ta_float (i := 5) rfl (by kernel_rfl) (wants_none rfl) (yq_of (y_ldb 1 Try.isAgg3 (fe_t rfl) rfl rfl)) ?_
                          refine ta_float (i := 6) rfl (by kernel_rfl) (wants_none rfl) (yq_of (y_fieldAddr (td := 3) Try.underlying23 rfl rfl Try.sizeOf3 (o' := 5) rfl (fe_t rfl))) ?_
                          refine ta_float (i := 7) rfl (by kernel_rfl) (wants_none rfl) (yq_of (y_ldb 2 Try.isAgg3 (fe_t rfl) rfl rfl)) ?_
                          refine ta_float (i := 8) rfl (by kernel_rfl) (wants_none rfl) (yq_of (y_sub (fe_t rfl) (fe_t rfl) (by omega))) ?_
                          refine ta_two (i := 0) (j := 3) rfl rfl (by kernel_rfl) (wants_none rfl) (wants_none rfl) ?_ ?_
                          · refine oj_alloc Try.zeroValue130 (fun zb => ⟨fun w h => h.pick [2, 3, 4] _ rfl (by decide), ?_⟩)
                            refine ta_one (i := 3) rfl (by kernel_rfl) (wants_none rfl) (oj_call2 Try.call70 fe_f (fel_cons (fe_t rfl) fel_nil) (fun w' hS => newE hS (C) (by omega) (by omega)) (fun p1 hp1 => ⟨fun w h => h.pick [4, 5, 6] _ rfl (by decide), ?_⟩))
                            refine ta_one (i := 9) rfl (by kernel_rfl) (wants_none rfl) (oj_call2 Try.call70 fe_f (fel_cons (fe_t rfl) fel_nil) (fun w' hS => newE hS (now - T) (by omega) (by omega)) (fun p2 hp2 => ⟨fun w h => h.pick [6, 7, 8] _ rfl (by decide), ?_⟩))
                            refine ta_one (i := 10) rfl (by kernel_rfl) (wants_none rfl) (oj_call2 Try.call69 fe_f (fel_cons (fe_t rfl) (fel_cons (fe_t rfl) (fel_cons (fe_t rfl) fel_nil))) (fun w' hS => mulE zb p1.1 p2.1 ⟨false, none, 0, 0, []⟩ p1.2 p2.2 C (now - T) (hS.sel [4, 5, 2, 3, 0, 1, 6, 7, 8] rfl (by decide)) hp1 hp2 (nm_small hp1 (by omega) (by omega)) (nm_small hp2 (by omega) (by omega))) (fun q1 hq1 => ⟨fun w h => h.pick [6, 7, 8] _ rfl (by decide), ?_⟩))
                            refine ta_float (i := 11) rfl (by kernel_rfl) (wants_none rfl) (yq_of (y_assign (fe_t rfl))) ?_
                            refine ta_done (by kernel_rfl) ?_
                            refine tx_then ?_
                            refine tr_seq ?_
                            refine tr_region ?_
                            refine tl_step rfl (oj_val (y_assign fe_c) ?_)
                            refine tl_nil ?_
                            refine tx_then ?_
                            refine tr_seq ?_
                            refine tr_seq ?_
                            refine tr_region ?_
                            refine tl_step rfl (oj_val (y_move (fe_t rfl)) ?_)
                            refine tl_step rfl (oj_val (y_move (fe_t rfl)) ?_)
                            refine tl_step rfl (oj_call2 Try.call70 fe_f (fel_cons (fe_t rfl) fel_nil) (fun w' hS => newE hS (4194304) (by omega) (by omega)) (fun p3 hp3 => ?_))
                            refine tl_step rfl (oj_callv Try.call71 fe_f (fel_cons (fe_t rfl) (fel_cons (fe_t rfl) fel_nil)) (fun w' hS => of_drn (cmp_any zb 0 p3.1 0 (C * (now - T)) 4194304 w' (int_at hS 2 3 rfl rfl hq1) (int_at hS 0 1 rfl rfl hp3) (sm_i64 (by omega) (by omega)) (sm_i64 (by omega) (by omega)))) ?_)
                            refine tl_step rfl (oj_val (y_lss (fe_t rfl) fe_c) ?_)
                            refine tl_nil ?_
                            refine tx_then ?_
                            refine tr_condp (fe_t rfl) (fun hq13 => ?_) (fun hq14 => ?_)
                            · try (first | (exfalso; omega) | (have hk2 : k = 0 ∨ k = 1 := (by omega); rcases hk2 with rfl | rfl))
                              all_goals
                                have hlt := cmp_lt hq13
                                refine tr_region ?_
                                refine tl_step rfl (oj_val (y_move (fe_t rfl)) ?_)
                                refine tl_step rfl (oj_callv Try.call72 fe_f (fel_cons (fe_t rfl) fel_nil) (fun w' hS => of_eq (int64_any zb 0 (C * (now - T)) w' (int_at hS 2 3 rfl rfl hq1) (by omega) (by omega))) ?_)
                                refine tl_step rfl (oj_val (y_assign (fe_t rfl)) ?_)
                                refine tl_nil ?_
                                refine tx_then ?_
                                refine tr_seq ?_
                                refine tr_seq ?_
                                refine tr_region ?_
                                refine tl_step rfl (oj_val (y_fieldAddr (td := 3) Try.underlying23 rfl rfl Try.sizeOf3 (o' := 3) rfl (fe_t rfl)) ?_)
                                refine tl_step rfl (oj_val (y_fieldAddr (td := 3) Try.underlying23 rfl rfl Try.sizeOf3 (o' := 1) rfl (fe_t rfl)) ?_)
                                refine tl_step rfl (oj_val (y_ldb 10 Try.isAgg3 (fe_t rfl) rfl rfl) ?_)
                                refine tl_step rfl (oj_val ((fun {u0 u1} hx hb => y_build (is := [0, 1]) (vs := [u0, u1]) (cs := [u0, u1]) rfl hx hb) (fel_cons (fe_t rfl) (fel_cons (fe_t rfl) fel_nil)) (by kernel_rfl)) ?_)
                                refine tl_step rfl (oj_val (y_fieldAddr (td := 3) Try.underlying23 rfl rfl Try.sizeOf3 (o' := 4) rfl (fe_t rfl)) ?_)
                                refine tl_step rfl (oj_val (y_fieldAddr (td := 3) Try.underlying23 rfl rfl Try.sizeOf3 (o' := 2) rfl (fe_t rfl)) ?_)
                                refine tl_step rfl (oj_val (y_ldb 10 Try.isAgg3 (fe_t rfl) rfl rfl) ?_)
                                refine tl_step rfl (oj_val ((fun {u0 u1} hx hb => y_build (is := [0, 1]) (vs := [u0, u1]) (cs := [u0, u1]) rfl hx hb) (fel_cons (fe_t rfl) (fel_cons (fe_t rfl) fel_nil)) (by kernel_rfl)) ?_)
                                refine tl_step rfl (oj_litA2 Try.underlying137 Try.sizeOf136 Try.zeroValue136 (fe_t rfl) (fe_t rfl) (fun gl => ?_))
                                refine tl_step rfl (oj_val (y_len Try.underlying137 (fe_t rfl)) ?_)
                                refine tl_step rfl (oj_val (y_move fe_c) ?_)
                                refine tl_nil ?_
                                refine tx_then ?_
                                refine tr_block ?_
                                refine tr_loop4 [10, 12, 13, 74, 75, 76, 77, 78, 79, 80, 81, 82, 83, 84, 85, 86, 87, 88, 89, 90, 91, 92, 93, 94, 95, 96, 97] (fun (k : Nat) (g : Int) (F' : Int) (S' : Int) => [(74, .int .i64 (k : Int)), (10, .int .i64 g)]) 0 (fun (k : Nat) (g : Int) (F' : Int) (S' : Int) => [(11, blk m [(.int .i64 C), (.int .i64 B), (.int .i64 E), (.int .i64 F'), (.int .i64 S'), (.int .i64 T)])]) (fun (k : Nat) (g : Int) (F' : Int) (S' : Int) => (k = 0 ∧ g = n0 ∧ F' = F ∧ S' = S) ∨ (k = 1 ∧ g = n0 - x ∧ F' = F + x ∧ S' = S) ∨ (k = 2 ∧ g = n0 - x - y ∧ F' = F + x ∧ S' = S + y)) (fun (k : Nat) (g : Int) (F' : Int) (S' : Int) => 2 - k) (0) (n0) (F) (S) (cov_cons (by first | rfl | exact v_int (by omega) | exact v_bool (by simp [*])) (cov_cons (by first | rfl | exact v_int (by omega) | exact v_bool (by simp [*])) (cov_nil))) (fun w h => h) ?_ ?_
                                · try dsimp only
                                  exact .inl ⟨rfl, rfl, rfl, rfl⟩
                                intro k g F' S' hp
                                refine tr_seq ?_
                                refine tr_region ?_
                                refine tl_step rfl (oj_val (y_lss (fe_t rfl) (fe_t rfl)) ?_)
                                refine tl_nil ?_
                                refine tx_then ?_
                                refine tr_seq ?_
                                refine tr_condp (fe_t rfl) (fun hq15 => ?_) (fun hq16 => ?_)
                                · try (first | (exfalso; omega) | (have hk2 : k = 0 ∨ k = 1 := (by omega); rcases hk2 with rfl | rfl))
                                  all_goals
                                    refine tr_skip ?_
                                    refine tx_then ?_
                                    refine tr_seq ?_
                                    refine tr_block ?_
                                    refine tr_seq ?_
                                    refine tr_region ?_
                                    refine tl_step rfl (oj_val (y_index Try.underlying137 Try.sizeOf136 (fe_t rfl) (fe_t rfl) (rdl_vec 0 rfl) (rfl) (by decide) (by omega) rfl) ?_)
                                    refine tl_step rfl (oj_val (y_ldL Try.isAgg136 Try.sizeOf136 (fe_t rfl) (rdl_vec 0 rfl) rfl (by decide)) ?_)
                                    refine tl_step rfl (oj_alloc Try.zeroValue136 (fun lb => ?_))
                                    refine tl_step rfl (oj_storeW 0 Try.sizeOf136 (fe_t rfl) (fe_t rfl) rfl rfl rfl rfl rfl (?_))
                                    refine tl_nil ?_
                                    refine tx_then ?_
                                    refine tr_seq ?_
                                    refine tr_draw (sel _ [0, 1, 2, 3, 4, 5, 6, 7, 8, 9, 10, 11, 12]) (fun w h => h.sel _ rfl (by decide)) rfl ?_
                                    refine ta_float (i := 0) rfl (by kernel_rfl) (wants_none rfl) (yq_of (y_move (fe_t rfl))) ?_
                                    refine ta_float (i := 1) rfl (by kernel_rfl) (wants_none rfl) (yq_of (y_fieldAddr (td := 3) Try.underlying136 rfl rfl Try.sizeOf3 (o' := 1) rfl (fe_t rfl))) ?_
                                    refine ta_float (i := 2) rfl (by kernel_rfl) (wants_none rfl) (yq_of (y_ldb 0 Try.isAgg3 (fe_t rfl) rfl rfl)) ?_
                                    refine ta_float (i := 3) rfl (by kernel_rfl) (wants_none rfl) (yq_of (y_fieldAddr (td := 135) Try.underlying136 rfl rfl Try.sizeOf135 (o' := 0) rfl (fe_t rfl))) ?_
                                    refine ta_float (i := 4) rfl (by kernel_rfl) (wants_none rfl) (yq_of (y_ldb 0 Try.isAgg135 (fe_t rfl) rfl rfl)) ?_
                                    refine ta_float (i := 5) rfl (by kernel_rfl) (wants_none rfl) (yq_of (y_nilCheck (fe_t rfl))) ?_
                                    refine ta_float (i := 6) rfl (by kernel_rfl) (wants_none rfl) (yq_of (y_ldb 12 Try.isAgg3 (fe_t rfl) rfl rfl)) ?_
                                    refine ta_float (i := 7) rfl (by kernel_rfl) (wants_none rfl) (yq_of (y_sub (fe_t rfl) (fe_t rfl) (by omega))) ?_
                                    refine ta_float (i := 8) rfl (by kernel_rfl) (wants_none rfl) (yq_of (y_min (fe_t rfl) (fe_t rfl))) ?_
                                    refine ta_float (i := 9) rfl (by kernel_rfl) (wants_none rfl) (yq_of (y_assign (fe_t rfl))) ?_
                                    refine ta_done (by kernel_rfl) ?_
                                    refine tx_then ?_
                                    refine tr_seq ?_
                                    refine tr_region ?_
                                    refine tl_step rfl (oj_val (y_fieldAddr (td := 135) Try.underlying136 rfl rfl Try.sizeOf135 (o' := 0) rfl (fe_t rfl)) ?_)
                                    refine tl_step rfl (oj_val (y_ldb 0 Try.isAgg135 (fe_t rfl) rfl rfl) ?_)
                                    refine tl_step rfl (oj_val (y_nilCheck (fe_t rfl)) ?_)
                                    refine tl_step rfl (oj_val (y_ldb 12 Try.isAgg3 (fe_t rfl) rfl rfl) ?_)
                                    refine tl_step rfl (oj_val (y_move (fe_t rfl)) ?_)
                                    refine tl_step rfl (oj_val (y_add (fe_t rfl) (fe_t rfl) (by omega)) ?_)
                                    refine tl_step rfl (oj_val (y_nilCheck (fe_t rfl)) ?_)
                                    refine tl_step rfl (oj_store1 12 Try.sizeOf3 (fe_t rfl) (fe_t rfl) rfl rfl rfl rfl (?_))
                                    refine tl_nil ?_
                                    refine tx_then ?_
                                    refine tr_region ?_
                                    refine tl_step rfl (oj_val (y_move (fe_t rfl)) ?_)
                                    refine tl_step rfl (oj_val (y_move (fe_t rfl)) ?_)
                                    refine tl_step rfl (oj_val (y_sub (fe_t rfl) (fe_t rfl) (by omega)) ?_)
                                    refine tl_step rfl (oj_val (y_assign (fe_t rfl)) ?_)
                                    refine tl_nil ?_
                                    refine tx_in ?_
                                    refine tx_then ?_
                                    refine tr_region ?_
                                    refine tl_step rfl (oj_val (y_inc (fe_t rfl) fe_c (by omega)) ?_)
                                    refine tl_step rfl (oj_val (y_move (fe_t rfl)) ?_)
                                    refine tl_nil ?_
                                    apply tx_back4 (_) (_) (_) (_)
                                    · exact (cov_cons (by first | rfl | exact v_int (by omega) | exact v_bool (by simp [*])) (cov_cons (by first | rfl | exact v_int (by omega) | exact v_bool (by simp [*])) (cov_nil)))
                                    · repeat (first | exact over_nil | refine over_put rfl ?_ | refine over_drop rfl ?_)
                                    · exact fun w h => h.pick [1, 2, 3, 4, 5, 6, 7, 8, 9, 10, 11, 12] _ rfl (by decide)
                                    · exact ⟨by omega, by omega⟩
                                · try (first | (exfalso; omega) | (have hk2 : k = 0 ∨ k = 1 := (by omega); rcases hk2 with rfl | rfl))
                                  all_goals
                                    refine tr_exit ?_
                                    refine tx_then_exit ?_
                                    refine tx_then_exit ?_
                                    refine tx_in_exit ?_
                                    refine tx_then ?_
                                    refine tr_seq ?_
                                    obtain ⟨hF', hS'⟩ : F' = F + x ∧ S' = S + y := by omega
                                    subst hF' hS'
                                    clear hp hx hy hN
                                    refine tr_region ?_
                                    refine tl_step rfl (oj_val (y_fieldAddr (td := 3) Try.underlying25 rfl rfl Try.sizeOf3 (o' := 0) rfl (fe_t rfl)) ?_)
                                    refine tl_step rfl (oj_val (y_ldb 10 Try.isAgg3 (fe_t rfl) rfl rfl) ?_)
                                    refine tl_step rfl (oj_val (y_fieldAddr (td := 3) Try.underlying23 rfl rfl Try.sizeOf3 (o' := 5) rfl (fe_t rfl)) ?_)
                                    refine tl_step rfl (oj_store1 11 Try.sizeOf3 (fe_t rfl) (fe_t rfl) rfl rfl rfl rfl (?_))
                                    refine tl_nil ?_
                                    refine tx_then ?_
                                    refine tr_seq ?_
                                    refine tr_seq ?_
                                    refine tr_region ?_
                                    refine tl_step rfl (oj_val (y_move (fe_t rfl)) ?_)
                                    refine tl_step rfl (oj_val (y_eq (fe_t rfl) fe_c) ?_)
                                    refine tl_step rfl (oj_val (y_move (fe_t rfl)) ?_)
                                    refine tl_splitp (d := 103) rfl (fun hq17 => ?_) (fun hq18 => ?_)
                                    · try (first | (exfalso; omega) | (have hk2 : k = 0 ∨ k = 1 := (by omega); rcases hk2 with rfl | rfl))
                                      all_goals
                                        refine tl_want rfl rfl rfl (oj_val (y_fieldAddr (td := 3) Try.underlying23 rfl rfl Try.sizeOf3 (o' := 3) rfl (fe_t rfl)) ?_)
                                        refine tl_want rfl rfl rfl (oj_val (y_ldb 11 Try.isAgg3 (fe_t rfl) rfl rfl) ?_)
                                        refine tl_want rfl rfl rfl (oj_val (y_fieldAddr (td := 3) Try.underlying25 rfl rfl Try.sizeOf3 (o' := 1) rfl (fe_t rfl)) ?_)
                                        refine tl_want rfl rfl rfl (oj_val (y_ldb 10 Try.isAgg3 (fe_t rfl) rfl rfl) ?_)
                                        refine tl_want rfl rfl rfl (oj_val (y_geq (fe_t rfl) (fe_t rfl)) ?_)
                                        refine tl_step rfl (oj_val (y_pickt (fe_t rfl) (fe_t rfl)) ?_)
                                        refine tl_nil ?_
                                        refine tx_then ?_
                                        refine tr_condp (fe_t rfl) (fun hq19 => ?_) (fun hq20 => ?_)
                                        · try (first | (exfalso; omega) | (have hk2 : k = 0 ∨ k = 1 := (by omega); rcases hk2 with rfl | rfl))
                                          all_goals
                                            refine tr_seq ?_
                                            refine tr_region ?_
                                            refine tl_step rfl (oj_val (y_fieldAddr (td := 3) Try.underlying23 rfl rfl Try.sizeOf3 (o' := 3) rfl (fe_t rfl)) ?_)
                                            refine tl_step rfl (oj_val (y_ldb 11 Try.isAgg3 (fe_t rfl) rfl rfl) ?_)
                                            refine tl_step rfl (oj_val (y_fieldAddr (td := 3) Try.underlying25 rfl rfl Try.sizeOf3 (o' := 1) rfl (fe_t rfl)) ?_)
                                            refine tl_step rfl (oj_val (y_ldb 10 Try.isAgg3 (fe_t rfl) rfl rfl) ?_)
                                            refine tl_step rfl (oj_val (y_sub (fe_t rfl) (fe_t rfl) (by omega)) ?_)
                                            refine tl_step rfl (oj_val (y_fieldAddr (td := 3) Try.underlying23 rfl rfl Try.sizeOf3 (o' := 3) rfl (fe_t rfl)) ?_)
                                            refine tl_step rfl (oj_store1 11 Try.sizeOf3 (fe_t rfl) (fe_t rfl) rfl rfl rfl rfl (?_))
                                            refine tl_nil ?_
                                            refine tx_then ?_
                                            refine tr_seq ?_
                                            refine tr_region ?_
                                            refine tl_step rfl (oj_val (y_ldbA 11 Try.isAgg23 Try.sizeOf23 (fe_t rfl) rfl rfl rfl) ?_)
                                            refine tl_step rfl (oj_storeW 9 Try.sizeOf23 (fe_t rfl) (fe_t rfl) rfl rfl rfl rfl rfl (?_))
                                            refine tl_step rfl (oj_val (y_assign fe_c) ?_)
                                            refine tl_step rfl (oj_val (y_assign fe_c) ?_)
                                            refine tl_nil ?_
                                            refine tx_then ?_
                                            refine tr_ret ?_
                                            refine tx_then_ret ?_
                                            refine tx_ret (res3 Try.results16 (rok_b 9 Try.isAgg23 Try.sizeOf23 rfl rfl rfl) (rok_t rfl) (rok_t rfl)) (fun w' hS => ?_)
                                            refine ⟨?_, hS.pick [] _ rfl (by decide)⟩
                                            rcases Hcs.out with ⟨h1, h2, h3⟩ | ⟨h1, h2, h3, h4⟩ | ⟨h1, h2, h3⟩ | ⟨h1, h2, h3, h4⟩ | ⟨h1, h2, h3⟩ | ⟨h1, h2⟩
                                            all_goals first | (exfalso; omega) | (subst h3; rfl) | (subst h4; rfl) | (subst h2; rfl)
                                        · try (first | (exfalso; omega) | (have hk2 : k = 0 ∨ k = 1 := (by omega); rcases hk2 with rfl | rfl))
                                          all_goals
                                            refine tr_skip ?_
                                            refine tx_then ?_
                                            refine tr_seq ?_
                                            refine tr_seq ?_
                                            refine tr_region ?_
                                            refine tl_step rfl (oj_val (y_move (fe_t rfl)) ?_)
                                            refine tl_step rfl (oj_val (y_lss (fe_t rfl) fe_c) ?_)
                                            refine tl_step rfl (oj_val (y_move (fe_t rfl)) ?_)
                                            refine tl_splitp (d := 119) rfl (fun hq21 => ?_) (fun hq22 => ?_)
                                            · try (first | (exfalso; omega) | (have hk2 : k = 0 ∨ k = 1 := (by omega); rcases hk2 with rfl | rfl))
                                              all_goals
                                                refine tl_want rfl rfl rfl (oj_val (y_fieldAddr (td := 3) Try.underlying23 rfl rfl Try.sizeOf3 (o' := 4) rfl (fe_t rfl)) ?_)
                                                refine tl_want rfl rfl rfl (oj_val (y_ldb 11 Try.isAgg3 (fe_t rfl) rfl rfl) ?_)
                                                refine tl_want rfl rfl rfl (oj_val (y_fieldAddr (td := 3) Try.underlying25 rfl rfl Try.sizeOf3 (o' := 1) rfl (fe_t rfl)) ?_)
                                                refine tl_want rfl rfl rfl (oj_val (y_ldb 10 Try.isAgg3 (fe_t rfl) rfl rfl) ?_)
                                                refine tl_want rfl rfl rfl (oj_val (y_geq (fe_t rfl) (fe_t rfl)) ?_)
                                                refine tl_step rfl (oj_val (y_pickt (fe_t rfl) (fe_t rfl)) ?_)
                                                refine tl_nil ?_
                                                refine tx_then ?_
                                                refine tr_condp (fe_t rfl) (fun hq23 => ?_) (fun hq24 => ?_)
                                                · try (first | (exfalso; omega) | (have hk2 : k = 0 ∨ k = 1 := (by omega); rcases hk2 with rfl | rfl))
                                                  all_goals
                                                    refine tr_seq ?_
                                                    refine tr_region ?_
                                                    refine tl_step rfl (oj_val (y_fieldAddr (td := 3) Try.underlying23 rfl rfl Try.sizeOf3 (o' := 4) rfl (fe_t rfl)) ?_)
                                                    refine tl_step rfl (oj_val (y_ldb 11 Try.isAgg3 (fe_t rfl) rfl rfl) ?_)
                                                    refine tl_step rfl (oj_val (y_fieldAddr (td := 3) Try.underlying25 rfl rfl Try.sizeOf3 (o' := 1) rfl (fe_t rfl)) ?_)
                                                    refine tl_step rfl (oj_val (y_ldb 10 Try.isAgg3 (fe_t rfl) rfl rfl) ?_)
                                                    refine tl_step rfl (oj_val (y_sub (fe_t rfl) (fe_t rfl) (by omega)) ?_)
                                                    refine tl_step rfl (oj_val (y_fieldAddr (td := 3) Try.underlying23 rfl rfl Try.sizeOf3 (o' := 4) rfl (fe_t rfl)) ?_)
                                                    refine tl_step rfl (oj_store1 11 Try.sizeOf3 (fe_t rfl) (fe_t rfl) rfl rfl rfl rfl (?_))
                                                    refine tl_nil ?_
                                                    refine tx_then ?_
                                                    refine tr_seq ?_
                                                    refine tr_region ?_
                                                    refine tl_step rfl (oj_val (y_ldbA 11 Try.isAgg23 Try.sizeOf23 (fe_t rfl) rfl rfl rfl) ?_)
                                                    refine tl_step rfl (oj_storeW 9 Try.sizeOf23 (fe_t rfl) (fe_t rfl) rfl rfl rfl rfl rfl (?_))
                                                    refine tl_step rfl (oj_val (y_assign fe_c) ?_)
                                                    refine tl_step rfl (oj_val (y_assign fe_c) ?_)
                                                    refine tl_nil ?_
                                                    refine tx_then ?_
                                                    refine tr_ret ?_
                                                    refine tx_then_ret ?_
                                                    refine tx_ret (res3 Try.results16 (rok_b 9 Try.isAgg23 Try.sizeOf23 rfl rfl rfl) (rok_t rfl) (rok_t rfl)) (fun w' hS => ?_)
                                                    refine ⟨?_, hS.pick [] _ rfl (by decide)⟩
                                                    rcases Hcs.out with ⟨h1, h2, h3⟩ | ⟨h1, h2, h3, h4⟩ | ⟨h1, h2, h3⟩ | ⟨h1, h2, h3, h4⟩ | ⟨h1, h2, h3⟩ | ⟨h1, h2⟩
                                                    all_goals first | (exfalso; omega) | (subst h3; rfl) | (subst h4; rfl) | (subst h2; rfl)
                                                · try (first | (exfalso; omega) | (have hk2 : k = 0 ∨ k = 1 := (by omega); rcases hk2 with rfl | rfl))
                                                  all_goals
                                                    refine tr_skip ?_
                                                    refine tx_then ?_
                                                    refine tr_seq ?_
                                                    refine tr_region ?_
                                                    refine tl_step rfl (oj_val (y_ldbA 11 Try.isAgg23 Try.sizeOf23 (fe_t rfl) rfl rfl rfl) ?_)
                                                    refine tl_step rfl (oj_storeW 9 Try.sizeOf23 (fe_t rfl) (fe_t rfl) rfl rfl rfl rfl rfl (?_))
                                                    refine tl_step rfl (oj_val (y_assign fe_c) ?_)
                                                    refine tl_step rfl (oj_val (y_assign fe_c) ?_)
                                                    refine tl_nil ?_
                                                    refine tx_then ?_
                                                    refine tr_ret ?_
                                                    refine tx_ret (res3 Try.results16 (rok_b 9 Try.isAgg23 Try.sizeOf23 rfl rfl rfl) (rok_t rfl) (rok_t rfl)) (fun w' hS => ?_)
                                                    refine ⟨?_, hS.pick [] _ rfl (by decide)⟩
                                                    rcases Hcs.out with ⟨h1, h2, h3⟩ | ⟨h1, h2, h3, h4⟩ | ⟨h1, h2, h3⟩ | ⟨h1, h2, h3, h4⟩ | ⟨h1, h2, h3⟩ | ⟨h1, h2⟩
                                                    all_goals first | (exfalso; omega) | (subst h3; rfl) | (subst h4; rfl) | (subst h2; rfl)
                                            · try (first | (exfalso; omega) | (have hk2 : k = 0 ∨ k = 1 := (by omega); rcases hk2 with rfl | rfl))
                                              all_goals
                                                refine tl_skip rfl rfl rfl rfl ?_
                                                refine tl_skip rfl rfl rfl rfl ?_
                                                refine tl_skip rfl rfl rfl rfl ?_
                                                refine tl_skip rfl rfl rfl rfl ?_
                                                refine tl_skip rfl rfl rfl rfl ?_
                                                refine tl_step rfl (oj_val (y_pickf (fe_t rfl) fe_c) ?_)
                                                refine tl_nil ?_
                                                refine tx_then ?_
                                                refine tr_condf (fe_t rfl) ?_
                                                refine tr_skip ?_
                                                refine tx_then ?_
                                                refine tr_seq ?_
                                                refine tr_region ?_
                                                refine tl_step rfl (oj_val (y_ldbA 11 Try.isAgg23 Try.sizeOf23 (fe_t rfl) rfl rfl rfl) ?_)
                                                refine tl_step rfl (oj_storeW 9 Try.sizeOf23 (fe_t rfl) (fe_t rfl) rfl rfl rfl rfl rfl (?_))
                                                refine tl_step rfl (oj_val (y_assign fe_c) ?_)
                                                refine tl_step rfl (oj_val (y_assign fe_c) ?_)
                                                refine tl_nil ?_
                                                refine tx_then ?_
                                                refine tr_ret ?_
                                                refine tx_ret (res3 Try.results16 (rok_b 9 Try.isAgg23 Try.sizeOf23 rfl rfl rfl) (rok_t rfl) (rok_t rfl)) (fun w' hS => ?_)
                                                refine ⟨?_, hS.pick [] _ rfl (by decide)⟩
                                                rcases Hcs.out with ⟨h1, h2, h3⟩ | ⟨h1, h2, h3, h4⟩ | ⟨h1, h2, h3⟩ | ⟨h1, h2, h3, h4⟩ | ⟨h1, h2, h3⟩ | ⟨h1, h2⟩
                                                all_goals first | (exfalso; omega) | (subst h3; rfl) | (subst h4; rfl) | (subst h2; rfl)
                                    · try (first | (exfalso; omega) | (have hk2 : k = 0 ∨ k = 1 := (by omega); rcases hk2 with rfl | rfl))
                                      all_goals
                                        refine tl_skip rfl rfl rfl rfl ?_
                                        refine tl_skip rfl rfl rfl rfl ?_
                                        refine tl_skip rfl rfl rfl rfl ?_
                                        refine tl_skip rfl rfl rfl rfl ?_
                                        refine tl_skip rfl rfl rfl rfl ?_
                                        refine tl_step rfl (oj_val (y_pickf (fe_t rfl) fe_c) ?_)
                                        refine tl_nil ?_
                                        refine tx_then ?_
                                        refine tr_condf (fe_t rfl) ?_
                                        refine tr_skip ?_
                                        refine tx_then ?_
                                        refine tr_seq ?_
                                        refine tr_seq ?_
                                        refine tr_region ?_
                                        refine tl_step rfl (oj_val (y_move (fe_t rfl)) ?_)
                                        refine tl_step rfl (oj_val (y_lss (fe_t rfl) fe_c) ?_)
                                        refine tl_step rfl (oj_val (y_move (fe_t rfl)) ?_)
                                        refine tl_splitp (d := 119) rfl (fun hq25 => ?_) (fun hq26 => ?_)
                                        · try (first | (exfalso; omega) | (have hk2 : k = 0 ∨ k = 1 := (by omega); rcases hk2 with rfl | rfl))
                                          all_goals
                                            refine tl_want rfl rfl rfl (oj_val (y_fieldAddr (td := 3) Try.underlying23 rfl rfl Try.sizeOf3 (o' := 4) rfl (fe_t rfl)) ?_)
                                            refine tl_want rfl rfl rfl (oj_val (y_ldb 11 Try.isAgg3 (fe_t rfl) rfl rfl) ?_)
                                            refine tl_want rfl rfl rfl (oj_val (y_fieldAddr (td := 3) Try.underlying25 rfl rfl Try.sizeOf3 (o' := 1) rfl (fe_t rfl)) ?_)
                                            refine tl_want rfl rfl rfl (oj_val (y_ldb 10 Try.isAgg3 (fe_t rfl) rfl rfl) ?_)
                                            refine tl_want rfl rfl rfl (oj_val (y_geq (fe_t rfl) (fe_t rfl)) ?_)
                                            refine tl_step rfl (oj_val (y_pickt (fe_t rfl) (fe_t rfl)) ?_)
                                            refine tl_nil ?_
                                            refine tx_then ?_
                                            refine tr_condp (fe_t rfl) (fun hq27 => ?_) (fun hq28 => ?_)
                                            · try (first | (exfalso; omega) | (have hk2 : k = 0 ∨ k = 1 := (by omega); rcases hk2 with rfl | rfl))
                                              all_goals
                                                refine tr_seq ?_
                                                refine tr_region ?_
                                                refine tl_step rfl (oj_val (y_fieldAddr (td := 3) Try.underlying23 rfl rfl Try.sizeOf3 (o' := 4) rfl (fe_t rfl)) ?_)
                                                refine tl_step rfl (oj_val (y_ldb 11 Try.isAgg3 (fe_t rfl) rfl rfl) ?_)
                                                refine tl_step rfl (oj_val (y_fieldAddr (td := 3) Try.underlying25 rfl rfl Try.sizeOf3 (o' := 1) rfl (fe_t rfl)) ?_)
                                                refine tl_step rfl (oj_val (y_ldb 10 Try.isAgg3 (fe_t rfl) rfl rfl) ?_)
                                                refine tl_step rfl (oj_val (y_sub (fe_t rfl) (fe_t rfl) (by omega)) ?_)
                                                refine tl_step rfl (oj_val (y_fieldAddr (td := 3) Try.underlying23 rfl rfl Try.sizeOf3 (o' := 4) rfl (fe_t rfl)) ?_)
                                                refine tl_step rfl (oj_store1 11 Try.sizeOf3 (fe_t rfl) (fe_t rfl) rfl rfl rfl rfl (?_))
                                                refine tl_nil ?_
                                                refine tx_then ?_
                                                refine tr_seq ?_
                                                refine tr_region ?_
                                                refine tl_step rfl (oj_val (y_ldbA 11 Try.isAgg23 Try.sizeOf23 (fe_t rfl) rfl rfl rfl) ?_)
                                                refine tl_step rfl (oj_storeW 9 Try.sizeOf23 (fe_t rfl) (fe_t rfl) rfl rfl rfl rfl rfl (?_))
                                                refine tl_step rfl (oj_val (y_assign fe_c) ?_)
                                                refine tl_step rfl (oj_val (y_assign fe_c) ?_)
                                                refine tl_nil ?_
                                                refine tx_then ?_
                                                refine tr_ret ?_
                                                refine tx_then_ret ?_
                                                refine tx_ret (res3 Try.results16 (rok_b 9 Try.isAgg23 Try.sizeOf23 rfl rfl rfl) (rok_t rfl) (rok_t rfl)) (fun w' hS => ?_)
                                                refine ⟨?_, hS.pick [] _ rfl (by decide)⟩
                                                rcases Hcs.out with ⟨h1, h2, h3⟩ | ⟨h1, h2, h3, h4⟩ | ⟨h1, h2, h3⟩ | ⟨h1, h2, h3, h4⟩ | ⟨h1, h2, h3⟩ | ⟨h1, h2⟩
                                                all_goals first | (exfalso; omega) | (subst h3; rfl) | (subst h4; rfl) | (subst h2; rfl)
                                            · try (first | (exfalso; omega) | (have hk2 : k = 0 ∨ k = 1 := (by omega); rcases hk2 with rfl | rfl))
                                              all_goals
                                                refine tr_skip ?_
                                                refine tx_then ?_
                                                refine tr_seq ?_
                                                refine tr_region ?_
                                                refine tl_step rfl (oj_val (y_ldbA 11 Try.isAgg23 Try.sizeOf23 (fe_t rfl) rfl rfl rfl) ?_)
                                                refine tl_step rfl (oj_storeW 9 Try.sizeOf23 (fe_t rfl) (fe_t rfl) rfl rfl rfl rfl rfl (?_))
                                                refine tl_step rfl (oj_val (y_assign fe_c) ?_)
                                                refine tl_step rfl (oj_val (y_assign fe_c) ?_)
                                                refine tl_nil ?_
                                                refine tx_then ?_
                                                refine tr_ret ?_
                                                refine tx_ret (res3 Try.results16 (rok_b 9 Try.isAgg23 Try.sizeOf23 rfl rfl rfl) (rok_t rfl) (rok_t rfl)) (fun w' hS => ?_)
                                                refine ⟨?_, hS.pick [] _ rfl (by decide)⟩
                                                rcases Hcs.out with ⟨h1, h2, h3⟩ | ⟨h1, h2, h3, h4⟩ | ⟨h1, h2, h3⟩ | ⟨h1, h2, h3, h4⟩ | ⟨h1, h2, h3⟩ | ⟨h1, h2⟩
                                                all_goals first | (exfalso; omega) | (subst h3; rfl) | (subst h4; rfl) | (subst h2; rfl)
                                        · try (first | (exfalso; omega) | (have hk2 : k = 0 ∨ k = 1 := (by omega); rcases hk2 with rfl | rfl))
                                          all_goals
                                            refine tl_skip rfl rfl rfl rfl ?_
                                            refine tl_skip rfl rfl rfl rfl ?_
                                            refine tl_skip rfl rfl rfl rfl ?_
                                            refine tl_skip rfl rfl rfl rfl ?_
                                            refine tl_skip rfl rfl rfl rfl ?_
                                            refine tl_step rfl (oj_val (y_pickf (fe_t rfl) fe_c) ?_)
                                            refine tl_nil ?_
                                            refine tx_then ?_
                                            refine tr_condf (fe_t rfl) ?_
                                            refine tr_skip ?_
                                            refine tx_then ?_
                                            refine tr_seq ?_
                                            refine tr_region ?_
                                            refine tl_step rfl (oj_val (y_ldbA 11 Try.isAgg23 Try.sizeOf23 (fe_t rfl) rfl rfl rfl) ?_)
                                            refine tl_step rfl (oj_storeW 9 Try.sizeOf23 (fe_t rfl) (fe_t rfl) rfl rfl rfl rfl rfl (?_))
                                            refine tl_step rfl (oj_val (y_assign fe_c) ?_)
                                            refine tl_step rfl (oj_val (y_assign fe_c) ?_)
                                            refine tl_nil ?_
                                            refine tx_then ?_
                                            refine tr_ret ?_
                                            refine tx_ret (res3 Try.results16 (rok_b 9 Try.isAgg23 Try.sizeOf23 rfl rfl rfl) (rok_t rfl) (rok_t rfl)) (fun w' hS => ?_)
                                            refine ⟨?_, hS.pick [] _ rfl (by decide)⟩
                                            rcases Hcs.out with ⟨h1, h2, h3⟩ | ⟨h1, h2, h3, h4⟩ | ⟨h1, h2, h3⟩ | ⟨h1, h2, h3, h4⟩ | ⟨h1, h2, h3⟩ | ⟨h1, h2⟩
                                            all_goals first | (exfalso; omega) | (subst h3; rfl) | (subst h4; rfl) | (subst h2; rfl)
                            · try (first | (exfalso; omega) | (have hk2 : k = 0 ∨ k = 1 := (by omega); rcases hk2 with rfl | rfl))
                              all_goals
                                have hlt := cmp_ge hq14
                                refine tr_skip ?_
                                refine tx_then ?_
                                refine tr_seq ?_
                                refine tr_seq ?_
                                refine tr_region ?_
                                refine tl_step rfl (oj_val (y_fieldAddr (td := 3) Try.underlying23 rfl rfl Try.sizeOf3 (o' := 3) rfl (fe_t rfl)) ?_)
                                refine tl_step rfl (oj_val (y_fieldAddr (td := 3) Try.underlying23 rfl rfl Try.sizeOf3 (o' := 1) rfl (fe_t rfl)) ?_)
                                refine tl_step rfl (oj_val (y_ldb 10 Try.isAgg3 (fe_t rfl) rfl rfl) ?_)
                                refine tl_step rfl (oj_val ((fun {u0 u1} hx hb => y_build (is := [0, 1]) (vs := [u0, u1]) (cs := [u0, u1]) rfl hx hb) (fel_cons (fe_t rfl) (fel_cons (fe_t rfl) fel_nil)) (by kernel_rfl)) ?_)
                                refine tl_step rfl (oj_val (y_fieldAddr (td := 3) Try.underlying23 rfl rfl Try.sizeOf3 (o' := 4) rfl (fe_t rfl)) ?_)
                                refine tl_step rfl (oj_val (y_fieldAddr (td := 3) Try.underlying23 rfl rfl Try.sizeOf3 (o' := 2) rfl (fe_t rfl)) ?_)
                                refine tl_step rfl (oj_val (y_ldb 10 Try.isAgg3 (fe_t rfl) rfl rfl) ?_)
                                refine tl_step rfl (oj_val ((fun {u0 u1} hx hb => y_build (is := [0, 1]) (vs := [u0, u1]) (cs := [u0, u1]) rfl hx hb) (fel_cons (fe_t rfl) (fel_cons (fe_t rfl) fel_nil)) (by kernel_rfl)) ?_)
                                refine tl_step rfl (oj_litA2 Try.underlying137 Try.sizeOf136 Try.zeroValue136 (fe_t rfl) (fe_t rfl) (fun gl => ?_))
                                refine tl_step rfl (oj_val (y_len Try.underlying137 (fe_t rfl)) ?_)
                                refine tl_step rfl (oj_val (y_move fe_c) ?_)
                                refine tl_nil ?_
                                refine tx_then ?_
                                refine tr_block ?_
                                refine tr_loop4 [10, 12, 13, 74, 75, 76, 77, 78, 79, 80, 81, 82, 83, 84, 85, 86, 87, 88, 89, 90, 91, 92, 93, 94, 95, 96, 97] (fun (k : Nat) (g : Int) (F' : Int) (S' : Int) => [(74, .int .i64 (k : Int)), (10, .int .i64 g)]) 0 (fun (k : Nat) (g : Int) (F' : Int) (S' : Int) => [(11, blk m [(.int .i64 C), (.int .i64 B), (.int .i64 E), (.int .i64 F'), (.int .i64 S'), (.int .i64 T)])]) (fun (k : Nat) (g : Int) (F' : Int) (S' : Int) => (k = 0 ∧ g = n0 ∧ F' = F ∧ S' = S) ∨ (k = 1 ∧ g = n0 - x ∧ F' = F + x ∧ S' = S) ∨ (k = 2 ∧ g = n0 - x - y ∧ F' = F + x ∧ S' = S + y)) (fun (k : Nat) (g : Int) (F' : Int) (S' : Int) => 2 - k) (0) (n0) (F) (S) (cov_cons (by first | rfl | exact v_int (by omega) | exact v_bool (by simp [*])) (cov_cons (by first | rfl | exact v_int (by omega) | exact v_bool (by simp [*])) (cov_nil))) (fun w h => h) ?_ ?_
                                · try dsimp only
                                  exact .inl ⟨rfl, rfl, rfl, rfl⟩
                                intro k g F' S' hp
                                refine tr_seq ?_
                                refine tr_region ?_
                                refine tl_step rfl (oj_val (y_lss (fe_t rfl) (fe_t rfl)) ?_)
                                refine tl_nil ?_
                                refine tx_then ?_
                                refine tr_seq ?_
                                refine tr_condp (fe_t rfl) (fun hq29 => ?_) (fun hq30 => ?_)
                                · try (first | (exfalso; omega) | (have hk2 : k = 0 ∨ k = 1 := (by omega); rcases hk2 with rfl | rfl))
                                  all_goals
                                    refine tr_skip ?_
                                    refine tx_then ?_
                                    refine tr_seq ?_
                                    refine tr_block ?_
                                    refine tr_seq ?_
                                    refine tr_region ?_
                                    refine tl_step rfl (oj_val (y_index Try.underlying137 Try.sizeOf136 (fe_t rfl) (fe_t rfl) (rdl_vec 0 rfl) (rfl) (by decide) (by omega) rfl) ?_)
                                    refine tl_step rfl (oj_val (y_ldL Try.isAgg136 Try.sizeOf136 (fe_t rfl) (rdl_vec 0 rfl) rfl (by decide)) ?_)
                                    refine tl_step rfl (oj_alloc Try.zeroValue136 (fun lb => ?_))
                                    refine tl_step rfl (oj_storeW 0 Try.sizeOf136 (fe_t rfl) (fe_t rfl) rfl rfl rfl rfl rfl (?_))
                                    refine tl_nil ?_
                                    refine tx_then ?_
                                    refine tr_seq ?_
                                    refine tr_draw (sel _ [0, 1, 2, 3, 4, 5, 6, 7, 8, 9, 10, 11, 12]) (fun w h => h.sel _ rfl (by decide)) rfl ?_
                                    refine ta_float (i := 0) rfl (by kernel_rfl) (wants_none rfl) (yq_of (y_move (fe_t rfl))) ?_
                                    refine ta_float (i := 1) rfl (by kernel_rfl) (wants_none rfl) (yq_of (y_fieldAddr (td := 3) Try.underlying136 rfl rfl Try.sizeOf3 (o' := 1) rfl (fe_t rfl))) ?_
                                    refine ta_float (i := 2) rfl (by kernel_rfl) (wants_none rfl) (yq_of (y_ldb 0 Try.isAgg3 (fe_t rfl) rfl rfl)) ?_
                                    refine ta_float (i := 3) rfl (by kernel_rfl) (wants_none rfl) (yq_of (y_fieldAddr (td := 135) Try.underlying136 rfl rfl Try.sizeOf135 (o' := 0) rfl (fe_t rfl))) ?_
                                    refine ta_float (i := 4) rfl (by kernel_rfl) (wants_none rfl) (yq_of (y_ldb 0 Try.isAgg135 (fe_t rfl) rfl rfl)) ?_
                                    refine ta_float (i := 5) rfl (by kernel_rfl) (wants_none rfl) (yq_of (y_nilCheck (fe_t rfl))) ?_
                                    refine ta_float (i := 6) rfl (by kernel_rfl) (wants_none rfl) (yq_of (y_ldb 12 Try.isAgg3 (fe_t rfl) rfl rfl)) ?_
                                    refine ta_float (i := 7) rfl (by kernel_rfl) (wants_none rfl) (yq_of (y_sub (fe_t rfl) (fe_t rfl) (by omega))) ?_
                                    refine ta_float (i := 8) rfl (by kernel_rfl) (wants_none rfl) (yq_of (y_min (fe_t rfl) (fe_t rfl))) ?_
                                    refine ta_float (i := 9) rfl (by kernel_rfl) (wants_none rfl) (yq_of (y_assign (fe_t rfl))) ?_
                                    refine ta_done (by kernel_rfl) ?_
                                    refine tx_then ?_
                                    refine tr_seq ?_
                                    refine tr_region ?_
                                    refine tl_step rfl (oj_val (y_fieldAddr (td := 135) Try.underlying136 rfl rfl Try.sizeOf135 (o' := 0) rfl (fe_t rfl)) ?_)
                                    refine tl_step rfl (oj_val (y_ldb 0 Try.isAgg135 (fe_t rfl) rfl rfl) ?_)
                                    refine tl_step rfl (oj_val (y_nilCheck (fe_t rfl)) ?_)
                                    refine tl_step rfl (oj_val (y_ldb 12 Try.isAgg3 (fe_t rfl) rfl rfl) ?_)
                                    refine tl_step rfl (oj_val (y_move (fe_t rfl)) ?_)
                                    refine tl_step rfl (oj_val (y_add (fe_t rfl) (fe_t rfl) (by omega)) ?_)
                                    refine tl_step rfl (oj_val (y_nilCheck (fe_t rfl)) ?_)
                                    refine tl_step rfl (oj_store1 12 Try.sizeOf3 (fe_t rfl) (fe_t rfl) rfl rfl rfl rfl (?_))
                                    refine tl_nil ?_
                                    refine tx_then ?_
                                    refine tr_region ?_
                                    refine tl_step rfl (oj_val (y_move (fe_t rfl)) ?_)
                                    refine tl_step rfl (oj_val (y_move (fe_t rfl)) ?_)
                                    refine tl_step rfl (oj_val (y_sub (fe_t rfl) (fe_t rfl) (by omega)) ?_)
                                    refine tl_step rfl (oj_val (y_assign (fe_t rfl)) ?_)
                                    refine tl_nil ?_
                                    refine tx_in ?_
                                    refine tx_then ?_
                                    refine tr_region ?_
                                    refine tl_step rfl (oj_val (y_inc (fe_t rfl) fe_c (by omega)) ?_)
                                    refine tl_step rfl (oj_val (y_move (fe_t rfl)) ?_)
                                    refine tl_nil ?_
                                    apply tx_back4 (_) (_) (_) (_)
                                    · exact (cov_cons (by first | rfl | exact v_int (by omega) | exact v_bool (by simp [*])) (cov_cons (by first | rfl | exact v_int (by omega) | exact v_bool (by simp [*])) (cov_nil)))
                                    · repeat (first | exact over_nil | refine over_put rfl ?_ | refine over_drop rfl ?_)
                                    · exact fun w h => h.pick [1, 2, 3, 4, 5, 6, 7, 8, 9, 10, 11, 12] _ rfl (by decide)
                                    · exact ⟨by omega, by omega⟩
                                · try (first | (exfalso; omega) | (have hk2 : k = 0 ∨ k = 1 := (by omega); rcases hk2 with rfl | rfl))
                                  all_goals
                                    refine tr_exit ?_
                                    refine tx_then_exit ?_
                                    refine tx_then_exit ?_
                                    refine tx_in_exit ?_
                                    refine tx_then ?_
                                    refine tr_seq ?_
                                    obtain ⟨hF', hS'⟩ : F' = F + x ∧ S' = S + y := by omega
                                    subst hF' hS'
                                    clear hp hx hy hN
                                    refine tr_region ?_
                                    refine tl_step rfl (oj_val (y_fieldAddr (td := 3) Try.underlying25 rfl rfl Try.sizeOf3 (o' := 0) rfl (fe_t rfl)) ?_)
                                    refine tl_step rfl (oj_val (y_ldb 10 Try.isAgg3 (fe_t rfl) rfl rfl) ?_)
                                    refine tl_step rfl (oj_val (y_fieldAddr (td := 3) Try.underlying23 rfl rfl Try.sizeOf3 (o' := 5) rfl (fe_t rfl)) ?_)
                                    refine tl_step rfl (oj_store1 11 Try.sizeOf3 (fe_t rfl) (fe_t rfl) rfl rfl rfl rfl (?_))
                                    refine tl_nil ?_
                                    refine tx_then ?_
                                    refine tr_seq ?_
                                    refine tr_seq ?_
                                    refine tr_region ?_
                                    refine tl_step rfl (oj_val (y_move (fe_t rfl)) ?_)
                                    refine tl_step rfl (oj_val (y_eq (fe_t rfl) fe_c) ?_)
                                    refine tl_step rfl (oj_val (y_move (fe_t rfl)) ?_)
                                    refine tl_splitp (d := 103) rfl (fun hq31 => ?_) (fun hq32 => ?_)
                                    · try (first | (exfalso; omega) | (have hk2 : k = 0 ∨ k = 1 := (by omega); rcases hk2 with rfl | rfl))
                                      all_goals
                                        refine tl_want rfl rfl rfl (oj_val (y_fieldAddr (td := 3) Try.underlying23 rfl rfl Try.sizeOf3 (o' := 3) rfl (fe_t rfl)) ?_)
                                        refine tl_want rfl rfl rfl (oj_val (y_ldb 11 Try.isAgg3 (fe_t rfl) rfl rfl) ?_)
                                        refine tl_want rfl rfl rfl (oj_val (y_fieldAddr (td := 3) Try.underlying25 rfl rfl Try.sizeOf3 (o' := 1) rfl (fe_t rfl)) ?_)
                                        refine tl_want rfl rfl rfl (oj_val (y_ldb 10 Try.isAgg3 (fe_t rfl) rfl rfl) ?_)
                                        refine tl_want rfl rfl rfl (oj_val (y_geq (fe_t rfl) (fe_t rfl)) ?_)
                                        refine tl_step rfl (oj_val (y_pickt (fe_t rfl) (fe_t rfl)) ?_)
                                        refine tl_nil ?_
                                        refine tx_then ?_
                                        refine tr_condp (fe_t rfl) (fun hq33 => ?_) (fun hq34 => ?_)
                                        · try (first | (exfalso; omega) | (have hk2 : k = 0 ∨ k = 1 := (by omega); rcases hk2 with rfl | rfl))
                                          all_goals
                                            refine tr_seq ?_
                                            refine tr_region ?_
                                            refine tl_step rfl (oj_val (y_fieldAddr (td := 3) Try.underlying23 rfl rfl Try.sizeOf3 (o' := 3) rfl (fe_t rfl)) ?_)
                                            refine tl_step rfl (oj_val (y_ldb 11 Try.isAgg3 (fe_t rfl) rfl rfl) ?_)
                                            refine tl_step rfl (oj_val (y_fieldAddr (td := 3) Try.underlying25 rfl rfl Try.sizeOf3 (o' := 1) rfl (fe_t rfl)) ?_)
                                            refine tl_step rfl (oj_val (y_ldb 10 Try.isAgg3 (fe_t rfl) rfl rfl) ?_)
                                            refine tl_step rfl (oj_val (y_sub (fe_t rfl) (fe_t rfl) (by omega)) ?_)
                                            refine tl_step rfl (oj_val (y_fieldAddr (td := 3) Try.underlying23 rfl rfl Try.sizeOf3 (o' := 3) rfl (fe_t rfl)) ?_)
                                            refine tl_step rfl (oj_store1 11 Try.sizeOf3 (fe_t rfl) (fe_t rfl) rfl rfl rfl rfl (?_))
                                            refine tl_nil ?_
                                            refine tx_then ?_
                                            refine tr_seq ?_
                                            refine tr_region ?_
                                            refine tl_step rfl (oj_val (y_ldbA 11 Try.isAgg23 Try.sizeOf23 (fe_t rfl) rfl rfl rfl) ?_)
                                            refine tl_step rfl (oj_storeW 9 Try.sizeOf23 (fe_t rfl) (fe_t rfl) rfl rfl rfl rfl rfl (?_))
                                            refine tl_step rfl (oj_val (y_assign fe_c) ?_)
                                            refine tl_step rfl (oj_val (y_assign fe_c) ?_)
                                            refine tl_nil ?_
                                            refine tx_then ?_
                                            refine tr_ret ?_
                                            refine tx_then_ret ?_
                                            refine tx_ret (res3 Try.results16 (rok_b 9 Try.isAgg23 Try.sizeOf23 rfl rfl rfl) (rok_t rfl) (rok_t rfl)) (fun w' hS => ?_)
                                            refine ⟨?_, hS.pick [] _ rfl (by decide)⟩
                                            rcases Hcs.out with ⟨h1, h2, h3⟩ | ⟨h1, h2, h3, h4⟩ | ⟨h1, h2, h3⟩ | ⟨h1, h2, h3, h4⟩ | ⟨h1, h2, h3⟩ | ⟨h1, h2⟩
                                            all_goals first | (exfalso; omega) | (subst h3; rfl) | (subst h4; rfl) | (subst h2; rfl)
                                        · try (first | (exfalso; omega) | (have hk2 : k = 0 ∨ k = 1 := (by omega); rcases hk2 with rfl | rfl))
                                          all_goals
                                            refine tr_skip ?_
                                            refine tx_then ?_
                                            refine tr_seq ?_
                                            refine tr_seq ?_
                                            refine tr_region ?_
                                            refine tl_step rfl (oj_val (y_move (fe_t rfl)) ?_)
                                            refine tl_step rfl (oj_val (y_lss (fe_t rfl) fe_c) ?_)
                                            refine tl_step rfl (oj_val (y_move (fe_t rfl)) ?_)
                                            refine tl_splitp (d := 119) rfl (fun hq35 => ?_) (fun hq36 => ?_)
                                            · try (first | (exfalso; omega) | (have hk2 : k = 0 ∨ k = 1 := (by omega); rcases hk2 with rfl | rfl))
                                              all_goals
                                                refine tl_want rfl rfl rfl (oj_val (y_fieldAddr (td := 3) Try.underlying23 rfl rfl Try.sizeOf3 (o' := 4) rfl (fe_t rfl)) ?_)
                                                refine tl_want rfl rfl rfl (oj_val (y_ldb 11 Try.isAgg3 (fe_t rfl) rfl rfl) ?_)
                                                refine tl_want rfl rfl rfl (oj_val (y_fieldAddr (td := 3) Try.underlying25 rfl rfl Try.sizeOf3 (o' := 1) rfl (fe_t rfl)) ?_)
                                                refine tl_want rfl rfl rfl (oj_val (y_ldb 10 Try.isAgg3 (fe_t rfl) rfl rfl) ?_)
                                                refine tl_want rfl rfl rfl (oj_val (y_geq (fe_t rfl) (fe_t rfl)) ?_)
                                                refine tl_step rfl (oj_val (y_pickt (fe_t rfl) (fe_t rfl)) ?_)
                                                refine tl_nil ?_
                                                refine tx_then ?_
                                                refine tr_condp (fe_t rfl) (fun hq37 => ?_) (fun hq38 => ?_)
                                                · try (first | (exfalso; omega) | (have hk2 : k = 0 ∨ k = 1 := (by omega); rcases hk2 with rfl | rfl))
                                                  all_goals
                                                    refine tr_seq ?_
                                                    refine tr_region ?_
                                                    refine tl_step rfl (oj_val (y_fieldAddr (td := 3) Try.underlying23 rfl rfl Try.sizeOf3 (o' := 4) rfl (fe_t rfl)) ?_)
                                                    refine tl_step rfl (oj_val (y_ldb 11 Try.isAgg3 (fe_t rfl) rfl rfl) ?_)
                                                    refine tl_step rfl (oj_val (y_fieldAddr (td := 3) Try.underlying25 rfl rfl Try.sizeOf3 (o' := 1) rfl (fe_t rfl)) ?_)
                                                    refine tl_step rfl (oj_val (y_ldb 10 Try.isAgg3 (fe_t rfl) rfl rfl) ?_)
                                                    refine tl_step rfl (oj_val (y_sub (fe_t rfl) (fe_t rfl) (by omega)) ?_)
                                                    refine tl_step rfl (oj_val (y_fieldAddr (td := 3) Try.underlying23 rfl rfl Try.sizeOf3 (o' := 4) rfl (fe_t rfl)) ?_)
                                                    refine tl_step rfl (oj_store1 11 Try.sizeOf3 (fe_t rfl) (fe_t rfl) rfl rfl rfl rfl (?_))
                                                    refine tl_nil ?_
                                                    refine tx_then ?_
                                                    refine tr_seq ?_
                                                    refine tr_region ?_
                                                    refine tl_step rfl (oj_val (y_ldbA 11 Try.isAgg23 Try.sizeOf23 (fe_t rfl) rfl rfl rfl) ?_)
                                                    refine tl_step rfl (oj_storeW 9 Try.sizeOf23 (fe_t rfl) (fe_t rfl) rfl rfl rfl rfl rfl (?_))
                                                    refine tl_step rfl (oj_val (y_assign fe_c) ?_)
                                                    refine tl_step rfl (oj_val (y_assign fe_c) ?_)
                                                    refine tl_nil ?_
                                                    refine tx_then ?_
                                                    refine tr_ret ?_
                                                    refine tx_then_ret ?_
                                                    refine tx_ret (res3 Try.results16 (rok_b 9 Try.isAgg23 Try.sizeOf23 rfl rfl rfl) (rok_t rfl) (rok_t rfl)) (fun w' hS => ?_)
                                                    refine ⟨?_, hS.pick [] _ rfl (by decide)⟩
                                                    rcases Hcs.out with ⟨h1, h2, h3⟩ | ⟨h1, h2, h3, h4⟩ | ⟨h1, h2, h3⟩ | ⟨h1, h2, h3, h4⟩ | ⟨h1, h2, h3⟩ | ⟨h1, h2⟩
                                                    all_goals first | (exfalso; omega) | (subst h3; rfl) | (subst h4; rfl) | (subst h2; rfl)
                                                · try (first | (exfalso; omega) | (have hk2 : k = 0 ∨ k = 1 := (by omega); rcases hk2 with rfl | rfl))
                                                  all_goals
                                                    refine tr_skip ?_
                                                    refine tx_then ?_
                                                    refine tr_seq ?_
                                                    refine tr_region ?_
                                                    refine tl_step rfl (oj_val (y_ldbA 11 Try.isAgg23 Try.sizeOf23 (fe_t rfl) rfl rfl rfl) ?_)
                                                    refine tl_step rfl (oj_storeW 9 Try.sizeOf23 (fe_t rfl) (fe_t rfl) rfl rfl rfl rfl rfl (?_))
                                                    refine tl_step rfl (oj_val (y_assign fe_c) ?_)
                                                    refine tl_step rfl (oj_val (y_assign fe_c) ?_)
                                                    refine tl_nil ?_
                                                    refine tx_then ?_
                                                    refine tr_ret ?_
                                                    refine tx_ret (res3 Try.results16 (rok_b 9 Try.isAgg23 Try.sizeOf23 rfl rfl rfl) (rok_t rfl) (rok_t rfl)) (fun w' hS => ?_)
                                                    refine ⟨?_, hS.pick [] _ rfl (by decide)⟩
                                                    rcases Hcs.out with ⟨h1, h2, h3⟩ | ⟨h1, h2, h3, h4⟩ | ⟨h1, h2, h3⟩ | ⟨h1, h2, h3, h4⟩ | ⟨h1, h2, h3⟩ | ⟨h1, h2⟩
                                                    all_goals first | (exfalso; omega) | (subst h3; rfl) | (subst h4; rfl) | (subst h2; rfl)
                                            · try (first | (exfalso; omega) | (have hk2 : k = 0 ∨ k = 1 := (by omega); rcases hk2 with rfl | rfl))
                                              all_goals
                                                refine tl_skip rfl rfl rfl rfl ?_
                                                refine tl_skip rfl rfl rfl rfl ?_
                                                refine tl_skip rfl rfl rfl rfl ?_
                                                refine tl_skip rfl rfl rfl rfl ?_
                                                refine tl_skip rfl rfl rfl rfl ?_
                                                refine tl_step rfl (oj_val (y_pickf (fe_t rfl) fe_c) ?_)
                                                refine tl_nil ?_
                                                refine tx_then ?_
                                                refine tr_condf (fe_t rfl) ?_
                                                refine tr_skip ?_
                                                refine tx_then ?_
                                                refine tr_seq ?_
                                                refine tr_region ?_
                                                refine tl_step rfl (oj_val (y_ldbA 11 Try.isAgg23 Try.sizeOf23 (fe_t rfl) rfl rfl rfl) ?_)
                                                refine tl_step rfl (oj_storeW 9 Try.sizeOf23 (fe_t rfl) (fe_t rfl) rfl rfl rfl rfl rfl (?_))
                                                refine tl_step rfl (oj_val (y_assign fe_c) ?_)
                                                refine tl_step rfl (oj_val (y_assign fe_c) ?_)
                                                refine tl_nil ?_
                                                refine tx_then ?_
                                                refine tr_ret ?_
                                                refine tx_ret (res3 Try.results16 (rok_b 9 Try.isAgg23 Try.sizeOf23 rfl rfl rfl) (rok_t rfl) (rok_t rfl)) (fun w' hS => ?_)
                                                refine ⟨?_, hS.pick [] _ rfl (by decide)⟩
                                                rcases Hcs.out with ⟨h1, h2, h3⟩ | ⟨h1, h2, h3, h4⟩ | ⟨h1, h2, h3⟩ | ⟨h1, h2, h3, h4⟩ | ⟨h1, h2, h3⟩ | ⟨h1, h2⟩
                                                all_goals first | (exfalso; omega) | (subst h3; rfl) | (subst h4; rfl) | (subst h2; rfl)
                                    · try (first | (exfalso; omega) | (have hk2 : k = 0 ∨ k = 1 := (by omega); rcases hk2 with rfl | rfl))
                                      all_goals
                                        refine tl_skip rfl rfl rfl rfl ?_
                                        refine tl_skip rfl rfl rfl rfl ?_
                                        refine tl_skip rfl rfl rfl rfl ?_
                                        refine tl_skip rfl rfl rfl rfl ?_
                                        refine tl_skip rfl rfl rfl rfl ?_
                                        refine tl_step rfl (oj_val (y_pickf (fe_t rfl) fe_c) ?_)
                                        refine tl_nil ?_
                                        refine tx_then ?_
                                        refine tr_condf (fe_t rfl) ?_
                                        refine tr_skip ?_
                                        refine tx_then ?_
                                        refine tr_seq ?_
                                        refine tr_seq ?_
                                        refine tr_region ?_
                                        refine tl_step rfl (oj_val (y_move (fe_t rfl)) ?_)
                                        refine tl_step rfl (oj_val (y_lss (fe_t rfl) fe_c) ?_)
                                        refine tl_step rfl (oj_val (y_move (fe_t rfl)) ?_)
                                        refine tl_splitp (d := 119) rfl (fun hq39 => ?_) (fun hq40 => ?_)
                                        · try (first | (exfalso; omega) | (have hk2 : k = 0 ∨ k = 1 := (by omega); rcases hk2 with rfl | rfl))
                                          all_goals
                                            refine tl_want rfl rfl rfl (oj_val (y_fieldAddr (td := 3) Try.underlying23 rfl rfl Try.sizeOf3 (o' := 4) rfl (fe_t rfl)) ?_)
                                            refine tl_want rfl rfl rfl (oj_val (y_ldb 11 Try.isAgg3 (fe_t rfl) rfl rfl) ?_)
                                            refine tl_want rfl rfl rfl (oj_val (y_fieldAddr (td := 3) Try.underlying25 rfl rfl Try.sizeOf3 (o' := 1) rfl (fe_t rfl)) ?_)
                                            refine tl_want rfl rfl rfl (oj_val (y_ldb 10 Try.isAgg3 (fe_t rfl) rfl rfl) ?_)
                                            refine tl_want rfl rfl rfl (oj_val (y_geq (fe_t rfl) (fe_t rfl)) ?_)
                                            refine tl_step rfl (oj_val (y_pickt (fe_t rfl) (fe_t rfl)) ?_)
                                            refine tl_nil ?_
                                            refine tx_then ?_
                                            refine tr_condp (fe_t rfl) (fun hq41 => ?_) (fun hq42 => ?_)
                                            · try (first | (exfalso; omega) | (have hk2 : k = 0 ∨ k = 1 := (by omega); rcases hk2 with rfl | rfl))
                                              all_goals
                                                refine tr_seq ?_
                                                refine tr_region ?_
                                                refine tl_step rfl (oj_val (y_fieldAddr (td := 3) Try.underlying23 rfl rfl Try.sizeOf3 (o' := 4) rfl (fe_t rfl)) ?_)
                                                refine tl_step rfl (oj_val (y_ldb 11 Try.isAgg3 (fe_t rfl) rfl rfl) ?_)
                                                refine tl_step rfl (oj_val (y_fieldAddr (td := 3) Try.underlying25 rfl rfl Try.sizeOf3 (o' := 1) rfl (fe_t rfl)) ?_)
                                                refine tl_step rfl (oj_val (y_ldb 10 Try.isAgg3 (fe_t rfl) rfl rfl) ?_)
                                                refine tl_step rfl (oj_val (y_sub (fe_t rfl) (fe_t rfl) (by omega)) ?_)
                                                refine tl_step rfl (oj_val (y_fieldAddr (td := 3) Try.underlying23 rfl rfl Try.sizeOf3 (o' := 4) rfl (fe_t rfl)) ?_)
                                                refine tl_step rfl (oj_store1 11 Try.sizeOf3 (fe_t rfl) (fe_t rfl) rfl rfl rfl rfl (?_))
                                                refine tl_nil ?_
                                                refine tx_then ?_
                                                refine tr_seq ?_
                                                refine tr_region ?_
                                                refine tl_step rfl (oj_val (y_ldbA 11 Try.isAgg23 Try.sizeOf23 (fe_t rfl) rfl rfl rfl) ?_)
                                                refine tl_step rfl (oj_storeW 9 Try.sizeOf23 (fe_t rfl) (fe_t rfl) rfl rfl rfl rfl rfl (?_))
                                                refine tl_step rfl (oj_val (y_assign fe_c) ?_)
                                                refine tl_step rfl (oj_val (y_assign fe_c) ?_)
                                                refine tl_nil ?_
                                                refine tx_then ?_
                                                refine tr_ret ?_
                                                refine tx_then_ret ?_
                                                refine tx_ret (res3 Try.results16 (rok_b 9 Try.isAgg23 Try.sizeOf23 rfl rfl rfl) (rok_t rfl) (rok_t rfl)) (fun w' hS => ?_)
                                                refine ⟨?_, hS.pick [] _ rfl (by decide)⟩
                                                rcases Hcs.out with ⟨h1, h2, h3⟩ | ⟨h1, h2, h3, h4⟩ | ⟨h1, h2, h3⟩ | ⟨h1, h2, h3, h4⟩ | ⟨h1, h2, h3⟩ | ⟨h1, h2⟩
                                                all_goals first | (exfalso; omega) | (subst h3; rfl) | (subst h4; rfl) | (subst h2; rfl)
                                            · try (first | (exfalso; omega) | (have hk2 : k = 0 ∨ k = 1 := (by omega); rcases hk2 with rfl | rfl))
                                              all_goals
                                                refine tr_skip ?_
                                                refine tx_then ?_
                                                refine tr_seq ?_
                                                refine tr_region ?_
                                                refine tl_step rfl (oj_val (y_ldbA 11 Try.isAgg23 Try.sizeOf23 (fe_t rfl) rfl rfl rfl) ?_)
                                                refine tl_step rfl (oj_storeW 9 Try.sizeOf23 (fe_t rfl) (fe_t rfl) rfl rfl rfl rfl rfl (?_))
                                                refine tl_step rfl (oj_val (y_assign fe_c) ?_)
                                                refine tl_step rfl (oj_val (y_assign fe_c) ?_)
                                                refine tl_nil ?_
                                                refine tx_then ?_
                                                refine tr_ret ?_
                                                refine tx_ret (res3 Try.results16 (rok_b 9 Try.isAgg23 Try.sizeOf23 rfl rfl rfl) (rok_t rfl) (rok_t rfl)) (fun w' hS => ?_)
                                                refine ⟨?_, hS.pick [] _ rfl (by decide)⟩
                                                rcases Hcs.out with ⟨h1, h2, h3⟩ | ⟨h1, h2, h3, h4⟩ | ⟨h1, h2, h3⟩ | ⟨h1, h2, h3, h4⟩ | ⟨h1, h2, h3⟩ | ⟨h1, h2⟩
                                                all_goals first | (exfalso; omega) | (subst h3; rfl) | (subst h4; rfl) | (subst h2; rfl)
                                        · try (first | (exfalso; omega) | (have hk2 : k = 0 ∨ k = 1 := (by omega); rcases hk2 with rfl | rfl))
                                          all_goals
                                            refine tl_skip rfl rfl rfl rfl ?_
                                            refine tl_skip rfl rfl rfl rfl ?_
                                            refine tl_skip rfl rfl rfl rfl ?_
                                            refine tl_skip rfl rfl rfl rfl ?_
                                            refine tl_skip rfl rfl rfl rfl ?_
                                            refine tl_step rfl (oj_val (y_pickf (fe_t rfl) fe_c) ?_)
                                            refine tl_nil ?_
                                            refine tx_then ?_
                                            refine tr_condf (fe_t rfl) ?_
                                            refine tr_skip ?_
                                            refine tx_then ?_
                                            refine tr_seq ?_
                                            refine tr_region ?_
                                            refine tl_step rfl (oj_val (y_ldbA 11 Try.isAgg23 Try.sizeOf23 (fe_t rfl) rfl rfl rfl) ?_)
                                            refine tl_step rfl (oj_storeW 9 Try.sizeOf23 (fe_t rfl) (fe_t rfl) rfl rfl rfl rfl rfl (?_))
                                            refine tl_step rfl (oj_val (y_assign fe_c) ?_)
                                            refine tl_step rfl (oj_val (y_assign fe_c) ?_)
                                            refine tl_nil ?_
                                            refine tx_then ?_
                                            refine tr_ret ?_
                                            refine tx_ret (res3 Try.results16 (rok_b 9 Try.isAgg23 Try.sizeOf23 rfl rfl rfl) (rok_t rfl) (rok_t rfl)) (fun w' hS => ?_)
                                            refine ⟨?_, hS.pick [] _ rfl (by decide)⟩
                                            rcases Hcs.out with ⟨h1, h2, h3⟩ | ⟨h1, h2, h3, h4⟩ | ⟨h1, h2, h3⟩ | ⟨h1, h2, h3, h4⟩ | ⟨h1, h2, h3⟩ | ⟨h1, h2⟩
                                            all_goals first | (exfalso; omega) | (subst h3; rfl) | (subst h4; rfl) | (subst h2; rfl)
                          · refine oj_call2 Try.call70 fe_f (fel_cons (fe_t rfl) fel_nil) (fun w' hS => newE hS (C) (by omega) (by omega)) (fun p1 hp1 => ⟨fun w h => h.pick [3, 4, 5] _ rfl (by decide), ?_⟩)
                            refine ta_two (i := 0) (j := 9) rfl rfl (by kernel_rfl) (wants_none rfl) (wants_none rfl) ?_ ?_
                            · refine oj_alloc Try.zeroValue130 (fun zb => ⟨fun w h => h.pick [4, 5, 6] _ rfl (by decide), ?_⟩)
                              refine ta_one (i := 9) rfl (by kernel_rfl) (wants_none rfl) (oj_call2 Try.call70 fe_f (fel_cons (fe_t rfl) fel_nil) (fun w' hS => newE hS (now - T) (by omega) (by omega)) (fun p2 hp2 => ⟨fun w h => h.pick [6, 7, 8] _ rfl (by decide), ?_⟩))
                              refine ta_one (i := 10) rfl (by kernel_rfl) (wants_none rfl) (oj_call2 Try.call69 fe_f (fel_cons (fe_t rfl) (fel_cons (fe_t rfl) (fel_cons (fe_t rfl) fel_nil))) (fun w' hS => mulE zb p1.1 p2.1 ⟨false, none, 0, 0, []⟩ p1.2 p2.2 C (now - T) (hS.sel [2, 5, 3, 4, 0, 1, 6, 7, 8] rfl (by decide)) hp1 hp2 (nm_small hp1 (by omega) (by omega)) (nm_small hp2 (by omega) (by omega))) (fun q1 hq1 => ⟨fun w h => h.pick [6, 7, 8] _ rfl (by decide), ?_⟩))
                              refine ta_float (i := 11) rfl (by kernel_rfl) (wants_none rfl) (yq_of (y_assign (fe_t rfl))) ?_
                              refine ta_done (by kernel_rfl) ?_
                              refine tx_then ?_
                              refine tr_seq ?_
                              refine tr_region ?_
                              refine tl_step rfl (oj_val (y_assign fe_c) ?_)
                              refine tl_nil ?_
                              refine tx_then ?_
                              refine tr_seq ?_
                              refine tr_seq ?_
                              refine tr_region ?_
                              refine tl_step rfl (oj_val (y_move (fe_t rfl)) ?_)
                              refine tl_step rfl (oj_val (y_move (fe_t rfl)) ?_)
                              refine tl_step rfl (oj_call2 Try.call70 fe_f (fel_cons (fe_t rfl) fel_nil) (fun w' hS => newE hS (4194304) (by omega) (by omega)) (fun p3 hp3 => ?_))
                              refine tl_step rfl (oj_callv Try.call71 fe_f (fel_cons (fe_t rfl) (fel_cons (fe_t rfl) fel_nil)) (fun w' hS => of_drn (cmp_any zb 0 p3.1 0 (C * (now - T)) 4194304 w' (int_at hS 2 3 rfl rfl hq1) (int_at hS 0 1 rfl rfl hp3) (sm_i64 (by omega) (by omega)) (sm_i64 (by omega) (by omega)))) ?_)
                              refine tl_step rfl (oj_val (y_lss (fe_t rfl) fe_c) ?_)
                              refine tl_nil ?_
                              refine tx_then ?_
                              refine tr_condp (fe_t rfl) (fun hq43 => ?_) (fun hq44 => ?_)
                              · try (first | (exfalso; omega) | (have hk2 : k = 0 ∨ k = 1 := (by omega); rcases hk2 with rfl | rfl))
                                all_goals
                                  have hlt := cmp_lt hq43
                                  refine tr_region ?_
                                  refine tl_step rfl (oj_val (y_move (fe_t rfl)) ?_)
                                  refine tl_step rfl (oj_callv Try.call72 fe_f (fel_cons (fe_t rfl) fel_nil) (fun w' hS => of_eq (int64_any zb 0 (C * (now - T)) w' (int_at hS 2 3 rfl rfl hq1) (by omega) (by omega))) ?_)
                                  refine tl_step rfl (oj_val (y_assign (fe_t rfl)) ?_)
                                  refine tl_nil ?_
                                  refine tx_then ?_
                                  refine tr_seq ?_
                                  refine tr_seq ?_
                                  refine tr_region ?_
                                  refine tl_step rfl (oj_val (y_fieldAddr (td := 3) Try.underlying23 rfl rfl Try.sizeOf3 (o' := 3) rfl (fe_t rfl)) ?_)
                                  refine tl_step rfl (oj_val (y_fieldAddr (td := 3) Try.underlying23 rfl rfl Try.sizeOf3 (o' := 1) rfl (fe_t rfl)) ?_)
                                  refine tl_step rfl (oj_val (y_ldb 10 Try.isAgg3 (fe_t rfl) rfl rfl) ?_)
                                  refine tl_step rfl (oj_val ((fun {u0 u1} hx hb => y_build (is := [0, 1]) (vs := [u0, u1]) (cs := [u0, u1]) rfl hx hb) (fel_cons (fe_t rfl) (fel_cons (fe_t rfl) fel_nil)) (by kernel_rfl)) ?_)
                                  refine tl_step rfl (oj_val (y_fieldAddr (td := 3) Try.underlying23 rfl rfl Try.sizeOf3 (o' := 4) rfl (fe_t rfl)) ?_)
                                  refine tl_step rfl (oj_val (y_fieldAddr (td := 3) Try.underlying23 rfl rfl Try.sizeOf3 (o' := 2) rfl (fe_t rfl)) ?_)
                                  refine tl_step rfl (oj_val (y_ldb 10 Try.isAgg3 (fe_t rfl) rfl rfl) ?_)
                                  refine tl_step rfl (oj_val ((fun {u0 u1} hx hb => y_build (is := [0, 1]) (vs := [u0, u1]) (cs := [u0, u1]) rfl hx hb) (fel_cons (fe_t rfl) (fel_cons (fe_t rfl) fel_nil)) (by kernel_rfl)) ?_)
                                  refine tl_step rfl (oj_litA2 Try.underlying137 Try.sizeOf136 Try.zeroValue136 (fe_t rfl) (fe_t rfl) (fun gl => ?_))
                                  refine tl_step rfl (oj_val (y_len Try.underlying137 (fe_t rfl)) ?_)
                                  refine tl_step rfl (oj_val (y_move fe_c) ?_)
                                  refine tl_nil ?_
                                  refine tx_then ?_
                                  refine tr_block ?_
                                  refine tr_loop4 [10, 12, 13, 74, 75, 76, 77, 78, 79, 80, 81, 82, 83, 84, 85, 86, 87, 88, 89, 90, 91, 92, 93, 94, 95, 96, 97] (fun (k : Nat) (g : Int) (F' : Int) (S' : Int) => [(74, .int .i64 (k : Int)), (10, .int .i64 g)]) 0 (fun (k : Nat) (g : Int) (F' : Int) (S' : Int) => [(11, blk m [(.int .i64 C), (.int .i64 B), (.int .i64 E), (.int .i64 F'), (.int .i64 S'), (.int .i64 T)])]) (fun (k : Nat) (g : Int) (F' : Int) (S' : Int) => (k = 0 ∧ g = n0 ∧ F' = F ∧ S' = S) ∨ (k = 1 ∧ g = n0 - x ∧ F' = F + x ∧ S' = S) ∨ (k = 2 ∧ g = n0 - x - y ∧ F' = F + x ∧ S' = S + y)) (fun (k : Nat) (g : Int) (F' : Int) (S' : Int) => 2 - k) (0) (n0) (F) (S) (cov_cons (by first | rfl | exact v_int (by omega) | exact v_bool (by simp [*])) (cov_cons (by first | rfl | exact v_int (by omega) | exact v_bool (by simp [*])) (cov_nil))) (fun w h => h) ?_ ?_
                                  · try dsimp only
                                    exact .inl ⟨rfl, rfl, rfl, rfl⟩
                                  intro k g F' S' hp
                                  refine tr_seq ?_
                                  refine tr_region ?_
                                  refine tl_step rfl (oj_val (y_lss (fe_t rfl) (fe_t rfl)) ?_)
                                  refine tl_nil ?_
                                  refine tx_then ?_
                                  refine tr_seq ?_
                                  refine tr_condp (fe_t rfl) (fun hq45 => ?_) (fun hq46 => ?_)
                                  · try (first | (exfalso; omega) | (have hk2 : k = 0 ∨ k = 1 := (by omega); rcases hk2 with rfl | rfl))
                                    all_goals
                                      refine tr_skip ?_
                                      refine tx_then ?_
                                      refine tr_seq ?_
                                      refine tr_block ?_
                                      refine tr_seq ?_
                                      refine tr_region ?_
                                      refine tl_step rfl (oj_val (y_index Try.underlying137 Try.sizeOf136 (fe_t rfl) (fe_t rfl) (rdl_vec 0 rfl) (rfl) (by decide) (by omega) rfl) ?_)
                                      refine tl_step rfl (oj_val (y_ldL Try.isAgg136 Try.sizeOf136 (fe_t rfl) (rdl_vec 0 rfl) rfl (by decide)) ?_)
                                      refine tl_step rfl (oj_alloc Try.zeroValue136 (fun lb => ?_))
                                      refine tl_step rfl (oj_storeW 0 Try.sizeOf136 (fe_t rfl) (fe_t rfl) rfl rfl rfl rfl rfl (?_))
                                      refine tl_nil ?_
                                      refine tx_then ?_
                                      refine tr_seq ?_
                                      refine tr_draw (sel _ [0, 1, 2, 3, 4, 5, 6, 7, 8, 9, 10, 11, 12]) (fun w h => h.sel _ rfl (by decide)) rfl ?_
                                      refine ta_float (i := 0) rfl (by kernel_rfl) (wants_none rfl) (yq_of (y_move (fe_t rfl))) ?_
                                      refine ta_float (i := 1) rfl (by kernel_rfl) (wants_none rfl) (yq_of (y_fieldAddr (td := 3) Try.underlying136 rfl rfl Try.sizeOf3 (o' := 1) rfl (fe_t rfl))) ?_
                                      refine ta_float (i := 2) rfl (by kernel_rfl) (wants_none rfl) (yq_of (y_ldb 0 Try.isAgg3 (fe_t rfl) rfl rfl)) ?_
                                      refine ta_float (i := 3) rfl (by kernel_rfl) (wants_none rfl) (yq_of (y_fieldAddr (td := 135) Try.underlying136 rfl rfl Try.sizeOf135 (o' := 0) rfl (fe_t rfl))) ?_
                                      refine ta_float (i := 4) rfl (by kernel_rfl) (wants_none rfl) (yq_of (y_ldb 0 Try.isAgg135 (fe_t rfl) rfl rfl)) ?_
                                      refine ta_float (i := 5) rfl (by kernel_rfl) (wants_none rfl) (yq_of (y_nilCheck (fe_t rfl))) ?_
                                      refine ta_float (i := 6) rfl (by kernel_rfl) (wants_none rfl) (yq_of (y_ldb 12 Try.isAgg3 (fe_t rfl) rfl rfl)) ?_
                                      refine ta_float (i := 7) rfl (by kernel_rfl) (wants_none rfl) (yq_of (y_sub (fe_t rfl) (fe_t rfl) (by omega))) ?_
                                      refine ta_float (i := 8) rfl (by kernel_rfl) (wants_none rfl) (yq_of (y_min (fe_t rfl) (fe_t rfl))) ?_
                                      refine ta_float (i := 9) rfl (by kernel_rfl) (wants_none rfl) (yq_of (y_assign (fe_t rfl))) ?_
                                      refine ta_done (by kernel_rfl) ?_
                                      refine tx_then ?_
                                      refine tr_seq ?_
                                      refine tr_region ?_
                                      refine tl_step rfl (oj_val (y_fieldAddr (td := 135) Try.underlying136 rfl rfl Try.sizeOf135 (o' := 0) rfl (fe_t rfl)) ?_)
                                      refine tl_step rfl (oj_val (y_ldb 0 Try.isAgg135 (fe_t rfl) rfl rfl) ?_)
                                      refine tl_step rfl (oj_val (y_nilCheck (fe_t rfl)) ?_)
                                      refine tl_step rfl (oj_val (y_ldb 12 Try.isAgg3 (fe_t rfl) rfl rfl) ?_)
                                      refine tl_step rfl (oj_val (y_move (fe_t rfl)) ?_)
                                      refine tl_step rfl (oj_val (y_add (fe_t rfl) (fe_t rfl) (by omega)) ?_)
                                      refine tl_step rfl (oj_val (y_nilCheck (fe_t rfl)) ?_)
                                      refine tl_step rfl (oj_store1 12 Try.sizeOf3 (fe_t rfl) (fe_t rfl) rfl rfl rfl rfl (?_))
                                      refine tl_nil ?_
                                      refine tx_then ?_
                                      refine tr_region ?_
                                      refine tl_step rfl (oj_val (y_move (fe_t rfl)) ?_)
                                      refine tl_step rfl (oj_val (y_move (fe_t rfl)) ?_)
                                      refine tl_step rfl (oj_val (y_sub (fe_t rfl) (fe_t rfl) (by omega)) ?_)
                                      refine tl_step rfl (oj_val (y_assign (fe_t rfl)) ?_)
                                      refine tl_nil ?_
                                      refine tx_in ?_
                                      refine tx_then ?_
                                      refine tr_region ?_
                                      refine tl_step rfl (oj_val (y_inc (fe_t rfl) fe_c (by omega)) ?_)
                                      refine tl_step rfl (oj_val (y_move (fe_t rfl)) ?_)
                                      refine tl_nil ?_
                                      apply tx_back4 (_) (_) (_) (_)
                                      · exact (cov_cons (by first | rfl | exact v_int (by omega) | exact v_bool (by simp [*])) (cov_cons (by first | rfl | exact v_int (by omega) | exact v_bool (by simp [*])) (cov_nil)))
                                      · repeat (first | exact over_nil | refine over_put rfl ?_ | refine over_drop rfl ?_)
                                      · exact fun w h => h.pick [1, 2, 3, 4, 5, 6, 7, 8, 9, 10, 11, 12] _ rfl (by decide)
                                      · exact ⟨by omega, by omega⟩
                                  · try (first | (exfalso; omega) | (have hk2 : k = 0 ∨ k = 1 := (by omega); rcases hk2 with rfl | rfl))
                                    all_goals
                                      refine tr_exit ?_
                                      refine tx_then_exit ?_
                                      refine tx_then_exit ?_
                                      refine tx_in_exit ?_
                                      refine tx_then ?_
                                      refine tr_seq ?_
                                      obtain ⟨hF', hS'⟩ : F' = F + x ∧ S' = S + y := by omega
                                      subst hF' hS'
                                      clear hp hx hy hN
                                      refine tr_region ?_
                                      refine tl_step rfl (oj_val (y_fieldAddr (td := 3) Try.underlying25 rfl rfl Try.sizeOf3 (o' := 0) rfl (fe_t rfl)) ?_)
                                      refine tl_step rfl (oj_val (y_ldb 10 Try.isAgg3 (fe_t rfl) rfl rfl) ?_)
                                      refine tl_step rfl (oj_val (y_fieldAddr (td := 3) Try.underlying23 rfl rfl Try.sizeOf3 (o' := 5) rfl (fe_t rfl)) ?_)
                                      refine tl_step rfl (oj_store1 11 Try.sizeOf3 (fe_t rfl) (fe_t rfl) rfl rfl rfl rfl (?_))
                                      refine tl_nil ?_
                                      refine tx_then ?_
                                      refine tr_seq ?_
                                      refine tr_seq ?_
                                      refine tr_region ?_
                                      refine tl_step rfl (oj_val (y_move (fe_t rfl)) ?_)
                                      refine tl_step rfl (oj_val (y_eq (fe_t rfl) fe_c) ?_)
                                      refine tl_step rfl (oj_val (y_move (fe_t rfl)) ?_)
                                      refine tl_splitp (d := 103) rfl (fun hq47 => ?_) (fun hq48 => ?_)
                                      · try (first | (exfalso; omega) | (have hk2 : k = 0 ∨ k = 1 := (by omega); rcases hk2 with rfl | rfl))
                                        all_goals
                                          refine tl_want rfl rfl rfl (oj_val (y_fieldAddr (td := 3) Try.underlying23 rfl rfl Try.sizeOf3 (o' := 3) rfl (fe_t rfl)) ?_)
                                          refine tl_want rfl rfl rfl (oj_val (y_ldb 11 Try.isAgg3 (fe_t rfl) rfl rfl) ?_)
                                          refine tl_want rfl rfl rfl (oj_val (y_fieldAddr (td := 3) Try.underlying25 rfl rfl Try.sizeOf3 (o' := 1) rfl (fe_t rfl)) ?_)
                                          refine tl_want rfl rfl rfl (oj_val (y_ldb 10 Try.isAgg3 (fe_t rfl) rfl rfl) ?_)
                                          refine tl_want rfl rfl rfl (oj_val (y_geq (fe_t rfl) (fe_t rfl)) ?_)
                                          refine tl_step rfl (oj_val (y_pickt (fe_t rfl) (fe_t rfl)) ?_)
                                          refine tl_nil ?_
                                          refine tx_then ?_
                                          refine tr_condp (fe_t rfl) (fun hq49 => ?_) (fun hq50 => ?_)
                                          · try (first | (exfalso; omega) | (have hk2 : k = 0 ∨ k = 1 := (by omega); rcases hk2 with rfl | rfl))
                                            all_goals
                                              refine tr_seq ?_
                                              refine tr_region ?_
                                              refine tl_step rfl (oj_val (y_fieldAddr (td := 3) Try.underlying23 rfl rfl Try.sizeOf3 (o' := 3) rfl (fe_t rfl)) ?_)
                                              refine tl_step rfl (oj_val (y_ldb 11 Try.isAgg3 (fe_t rfl) rfl rfl) ?_)
                                              refine tl_step rfl (oj_val (y_fieldAddr (td := 3) Try.underlying25 rfl rfl Try.sizeOf3 (o' := 1) rfl (fe_t rfl)) ?_)
                                              refine tl_step rfl (oj_val (y_ldb 10 Try.isAgg3 (fe_t rfl) rfl rfl) ?_)
                                              refine tl_step rfl (oj_val (y_sub (fe_t rfl) (fe_t rfl) (by omega)) ?_)
                                              refine tl_step rfl (oj_val (y_fieldAddr (td := 3) Try.underlying23 rfl rfl Try.sizeOf3 (o' := 3) rfl (fe_t rfl)) ?_)
                                              refine tl_step rfl (oj_store1 11 Try.sizeOf3 (fe_t rfl) (fe_t rfl) rfl rfl rfl rfl (?_))
                                              refine tl_nil ?_
                                              refine tx_then ?_
                                              refine tr_seq ?_
                                              refine tr_region ?_
                                              refine tl_step rfl (oj_val (y_ldbA 11 Try.isAgg23 Try.sizeOf23 (fe_t rfl) rfl rfl rfl) ?_)
                                              refine tl_step rfl (oj_storeW 9 Try.sizeOf23 (fe_t rfl) (fe_t rfl) rfl rfl rfl rfl rfl (?_))
                                              refine tl_step rfl (oj_val (y_assign fe_c) ?_)
                                              refine tl_step rfl (oj_val (y_assign fe_c) ?_)
                                              refine tl_nil ?_
                                              refine tx_then ?_
                                              refine tr_ret ?_
                                              refine tx_then_ret ?_
                                              refine tx_ret (res3 Try.results16 (rok_b 9 Try.isAgg23 Try.sizeOf23 rfl rfl rfl) (rok_t rfl) (rok_t rfl)) (fun w' hS => ?_)
                                              refine ⟨?_, hS.pick [] _ rfl (by decide)⟩
                                              rcases Hcs.out with ⟨h1, h2, h3⟩ | ⟨h1, h2, h3, h4⟩ | ⟨h1, h2, h3⟩ | ⟨h1, h2, h3, h4⟩ | ⟨h1, h2, h3⟩ | ⟨h1, h2⟩
                                              all_goals first | (exfalso; omega) | (subst h3; rfl) | (subst h4; rfl) | (subst h2; rfl)
                                          · try (first | (exfalso; omega) | (have hk2 : k = 0 ∨ k = 1 := (by omega); rcases hk2 with rfl | rfl))
                                            all_goals
                                              refine tr_skip ?_
                                              refine tx_then ?_
                                              refine tr_seq ?_
                                              refine tr_seq ?_
                                              refine tr_region ?_
                                              refine tl_step rfl (oj_val (y_move (fe_t rfl)) ?_)
                                              refine tl_step rfl (oj_val (y_lss (fe_t rfl) fe_c) ?_)
                                              refine tl_step rfl (oj_val (y_move (fe_t rfl)) ?_)
                                              refine tl_splitp (d := 119) rfl (fun hq51 => ?_) (fun hq52 => ?_)
                                              · try (first | (exfalso; omega) | (have hk2 : k = 0 ∨ k = 1 := (by omega); rcases hk2 with rfl | rfl))
                                                all_goals
                                                  refine tl_want rfl rfl rfl (oj_val (y_fieldAddr (td := 3) Try.underlying23 rfl rfl Try.sizeOf3 (o' := 4) rfl (fe_t rfl)) ?_)
                                                  refine tl_want rfl rfl rfl (oj_val (y_ldb 11 Try.isAgg3 (fe_t rfl) rfl rfl) ?_)
                                                  refine tl_want rfl rfl rfl (oj_val (y_fieldAddr (td := 3) Try.underlying25 rfl rfl Try.sizeOf3 (o' := 1) rfl (fe_t rfl)) ?_)
                                                  refine tl_want rfl rfl rfl (oj_val (y_ldb 10 Try.isAgg3 (fe_t rfl) rfl rfl) ?_)
                                                  refine tl_want rfl rfl rfl (oj_val (y_geq (fe_t rfl) (fe_t rfl)) ?_)
                                                  refine tl_step rfl (oj_val (y_pickt (fe_t rfl) (fe_t rfl)) ?_)
                                                  refine tl_nil ?_
                                                  refine tx_then ?_
                                                  refine tr_condp (fe_t rfl) (fun hq53 => ?_) (fun hq54 => ?_)
                                                  · try (first | (exfalso; omega) | (have hk2 : k = 0 ∨ k = 1 := (by omega); rcases hk2 with rfl | rfl))
                                                    all_goals
                                                      refine tr_seq ?_
                                                      refine tr_region ?_
                                                      refine tl_step rfl (oj_val (y_fieldAddr (td := 3) Try.underlying23 rfl rfl Try.sizeOf3 (o' := 4) rfl (fe_t rfl)) ?_)
                                                      refine tl_step rfl (oj_val (y_ldb 11 Try.isAgg3 (fe_t rfl) rfl rfl) ?_)
                                                      refine tl_step rfl (oj_val (y_fieldAddr (td := 3) Try.underlying25 rfl rfl Try.sizeOf3 (o' := 1) rfl (fe_t rfl)) ?_)
                                                      refine tl_step rfl (oj_val (y_ldb 10 Try.isAgg3 (fe_t rfl) rfl rfl) ?_)
                                                      refine tl_step rfl (oj_val (y_sub (fe_t rfl) (fe_t rfl) (by omega)) ?_)
                                                      refine tl_step rfl (oj_val (y_fieldAddr (td := 3) Try.underlying23 rfl rfl Try.sizeOf3 (o' := 4) rfl (fe_t rfl)) ?_)
                                                      refine tl_step rfl (oj_store1 11 Try.sizeOf3 (fe_t rfl) (fe_t rfl) rfl rfl rfl rfl (?_))
                                                      refine tl_nil ?_
                                                      refine tx_then ?_
                                                      refine tr_seq ?_
                                                      refine tr_region ?_
                                                      refine tl_step rfl (oj_val (y_ldbA 11 Try.isAgg23 Try.sizeOf23 (fe_t rfl) rfl rfl rfl) ?_)
                                                      refine tl_step rfl (oj_storeW 9 Try.sizeOf23 (fe_t rfl) (fe_t rfl) rfl rfl rfl rfl rfl (?_))
                                                      refine tl_step rfl (oj_val (y_assign fe_c) ?_)
                                                      refine tl_step rfl (oj_val (y_assign fe_c) ?_)
                                                      refine tl_nil ?_
                                                      refine tx_then ?_
                                                      refine tr_ret ?_
                                                      refine tx_then_ret ?_
                                                      refine tx_ret (res3 Try.results16 (rok_b 9 Try.isAgg23 Try.sizeOf23 rfl rfl rfl) (rok_t rfl) (rok_t rfl)) (fun w' hS => ?_)
                                                      refine ⟨?_, hS.pick [] _ rfl (by decide)⟩
                                                      rcases Hcs.out with ⟨h1, h2, h3⟩ | ⟨h1, h2, h3, h4⟩ | ⟨h1, h2, h3⟩ | ⟨h1, h2, h3, h4⟩ | ⟨h1, h2, h3⟩ | ⟨h1, h2⟩
                                                      all_goals first | (exfalso; omega) | (subst h3; rfl) | (subst h4; rfl) | (subst h2; rfl)
                                                  · try (first | (exfalso; omega) | (have hk2 : k = 0 ∨ k = 1 := (by omega); rcases hk2 with rfl | rfl))
                                                    all_goals
                                                      refine tr_skip ?_
                                                      refine tx_then ?_
                                                      refine tr_seq ?_
                                                      refine tr_region ?_
                                                      refine tl_step rfl (oj_val (y_ldbA 11 Try.isAgg23 Try.sizeOf23 (fe_t rfl) rfl rfl rfl) ?_)
                                                      refine tl_step rfl (oj_storeW 9 Try.sizeOf23 (fe_t rfl) (fe_t rfl) rfl rfl rfl rfl rfl (?_))
                                                      refine tl_step rfl (oj_val (y_assign fe_c) ?_)
                                                      refine tl_step rfl (oj_val (y_assign fe_c) ?_)
                                                      refine tl_nil ?_
                                                      refine tx_then ?_
                                                      refine tr_ret ?_
                                                      refine tx_ret (res3 Try.results16 (rok_b 9 Try.isAgg23 Try.sizeOf23 rfl rfl rfl) (rok_t rfl) (rok_t rfl)) (fun w' hS => ?_)
                                                      refine ⟨?_, hS.pick [] _ rfl (by decide)⟩
                                                      rcases Hcs.out with ⟨h1, h2, h3⟩ | ⟨h1, h2, h3, h4⟩ | ⟨h1, h2, h3⟩ | ⟨h1, h2, h3, h4⟩ | ⟨h1, h2, h3⟩ | ⟨h1, h2⟩
                                                      all_goals first | (exfalso; omega) | (subst h3; rfl) | (subst h4; rfl) | (subst h2; rfl)
                                              · try (first | (exfalso; omega) | (have hk2 : k = 0 ∨ k = 1 := (by omega); rcases hk2 with rfl | rfl))
                                                all_goals
                                                  refine tl_skip rfl rfl rfl rfl ?_
                                                  refine tl_skip rfl rfl rfl rfl ?_
                                                  refine tl_skip rfl rfl rfl rfl ?_
                                                  refine tl_skip rfl rfl rfl rfl ?_
                                                  refine tl_skip rfl rfl rfl rfl ?_
                                                  refine tl_step rfl (oj_val (y_pickf (fe_t rfl) fe_c) ?_)
                                                  refine tl_nil ?_
                                                  refine tx_then ?_
                                                  refine tr_condf (fe_t rfl) ?_
                                                  refine tr_skip ?_
                                                  refine tx_then ?_
                                                  refine tr_seq ?_
                                                  refine tr_region ?_
                                                  refine tl_step rfl (oj_val (y_ldbA 11 Try.isAgg23 Try.sizeOf23 (fe_t rfl) rfl rfl rfl) ?_)
                                                  refine tl_step rfl (oj_storeW 9 Try.sizeOf23 (fe_t rfl) (fe_t rfl) rfl rfl rfl rfl rfl (?_))
                                                  refine tl_step rfl (oj_val (y_assign fe_c) ?_)
                                                  refine tl_step rfl (oj_val (y_assign fe_c) ?_)
                                                  refine tl_nil ?_
                                                  refine tx_then ?_
                                                  refine tr_ret ?_
                                                  refine tx_ret (res3 Try.results16 (rok_b 9 Try.isAgg23 Try.sizeOf23 rfl rfl rfl) (rok_t rfl) (rok_t rfl)) (fun w' hS => ?_)
                                                  refine ⟨?_, hS.pick [] _ rfl (by decide)⟩
                                                  rcases Hcs.out with ⟨h1, h2, h3⟩ | ⟨h1, h2, h3, h4⟩ | ⟨h1, h2, h3⟩ | ⟨h1, h2, h3, h4⟩ | ⟨h1, h2, h3⟩ | ⟨h1, h2⟩
                                                  all_goals first | (exfalso; omega) | (subst h3; rfl) | (subst h4; rfl) | (subst h2; rfl)
                                      · try (first | (exfalso; omega) | (have hk2 : k = 0 ∨ k = 1 := (by omega); rcases hk2 with rfl | rfl))
                                        all_goals
                                          refine tl_skip rfl rfl rfl rfl ?_
                                          refine tl_skip rfl rfl rfl rfl ?_
                                          refine tl_skip rfl rfl rfl rfl ?_
                                          refine tl_skip rfl rfl rfl rfl ?_
                                          refine tl_skip rfl rfl rfl rfl ?_
                                          refine tl_step rfl (oj_val (y_pickf (fe_t rfl) fe_c) ?_)
                                          refine tl_nil ?_
                                          refine tx_then ?_
                                          refine tr_condf (fe_t rfl) ?_
                                          refine tr_skip ?_
                                          refine tx_then ?_
                                          refine tr_seq ?_
                                          refine tr_seq ?_
                                          refine tr_region ?_
                                          refine tl_step rfl (oj_val (y_move (fe_t rfl)) ?_)
                                          refine tl_step rfl (oj_val (y_lss (fe_t rfl) fe_c) ?_)
                                          refine tl_step rfl (oj_val (y_move (fe_t rfl)) ?_)
                                          refine tl_splitp (d := 119) rfl (fun hq55 => ?_) (fun hq56 => ?_)
                                          · try (first | (exfalso; omega) | (have hk2 : k = 0 ∨ k = 1 := (by omega); rcases hk2 with rfl | rfl))
                                            all_goals
                                              refine tl_want rfl rfl rfl (oj_val (y_fieldAddr (td := 3) Try.underlying23 rfl rfl Try.sizeOf3 (o' := 4) rfl (fe_t rfl)) ?_)
                                              refine tl_want rfl rfl rfl (oj_val (y_ldb 11 Try.isAgg3 (fe_t rfl) rfl rfl) ?_)
                                              refine tl_want rfl rfl rfl (oj_val (y_fieldAddr (td := 3) Try.underlying25 rfl rfl Try.sizeOf3 (o' := 1) rfl (fe_t rfl)) ?_)
                                              refine tl_want rfl rfl rfl (oj_val (y_ldb 10 Try.isAgg3 (fe_t rfl) rfl rfl) ?_)
                                              refine tl_want rfl rfl rfl (oj_val (y_geq (fe_t rfl) (fe_t rfl)) ?_)
                                              refine tl_step rfl (oj_val (y_pickt (fe_t rfl) (fe_t rfl)) ?_)
                                              refine tl_nil ?_
                                              refine tx_then ?_
                                              refine tr_condp (fe_t rfl) (fun hq57 => ?_) (fun hq58 => ?_)
                                              · try (first | (exfalso; omega) | (have hk2 : k = 0 ∨ k = 1 := (by omega); rcases hk2 with rfl | rfl))
                                                all_goals
                                                  refine tr_seq ?_
                                                  refine tr_region ?_
                                                  refine tl_step rfl (oj_val (y_fieldAddr (td := 3) Try.underlying23 rfl rfl Try.sizeOf3 (o' := 4) rfl (fe_t rfl)) ?_)
                                                  refine tl_step rfl (oj_val (y_ldb 11 Try.isAgg3 (fe_t rfl) rfl rfl) ?_)
                                                  refine tl_step rfl (oj_val (y_fieldAddr (td := 3) Try.underlying25 rfl rfl Try.sizeOf3 (o' := 1) rfl (fe_t rfl)) ?_)
                                                  refine tl_step rfl (oj_val (y_ldb 10 Try.isAgg3 (fe_t rfl) rfl rfl) ?_)
                                                  refine tl_step rfl (oj_val (y_sub (fe_t rfl) (fe_t rfl) (by omega)) ?_)
                                                  refine tl_step rfl (oj_val (y_fieldAddr (td := 3) Try.underlying23 rfl rfl Try.sizeOf3 (o' := 4) rfl (fe_t rfl)) ?_)
                                                  refine tl_step rfl (oj_store1 11 Try.sizeOf3 (fe_t rfl) (fe_t rfl) rfl rfl rfl rfl (?_))
                                                  refine tl_nil ?_
                                                  refine tx_then ?_
                                                  refine tr_seq ?_
                                                  refine tr_region ?_
                                                  refine tl_step rfl (oj_val (y_ldbA 11 Try.isAgg23 Try.sizeOf23 (fe_t rfl) rfl rfl rfl) ?_)
                                                  refine tl_step rfl (oj_storeW 9 Try.sizeOf23 (fe_t rfl) (fe_t rfl) rfl rfl rfl rfl rfl (?_))
                                                  refine tl_step rfl (oj_val (y_assign fe_c) ?_)
                                                  refine tl_step rfl (oj_val (y_assign fe_c) ?_)
                                                  refine tl_nil ?_
                                                  refine tx_then ?_
                                                  refine tr_ret ?_
                                                  refine tx_then_ret ?_
                                                  refine tx_ret (res3 Try.results16 (rok_b 9 Try.isAgg23 Try.sizeOf23 rfl rfl rfl) (rok_t rfl) (rok_t rfl)) (fun w' hS => ?_)
                                                  refine ⟨?_, hS.pick [] _ rfl (by decide)⟩
                                                  rcases Hcs.out with ⟨h1, h2, h3⟩ | ⟨h1, h2, h3, h4⟩ | ⟨h1, h2, h3⟩ | ⟨h1, h2, h3, h4⟩ | ⟨h1, h2, h3⟩ | ⟨h1, h2⟩
                                                  all_goals first | (exfalso; omega) | (subst h3; rfl) | (subst h4; rfl) | (subst h2; rfl)
                                              · try (first | (exfalso; omega) | (have hk2 : k = 0 ∨ k = 1 := (by omega); rcases hk2 with rfl | rfl))
                                                all_goals
                                                  refine tr_skip ?_
                                                  refine tx_then ?_
                                                  refine tr_seq ?_
                                                  refine tr_region ?_
                                                  refine tl_step rfl (oj_val (y_ldbA 11 Try.isAgg23 Try.sizeOf23 (fe_t rfl) rfl rfl rfl) ?_)
                                                  refine tl_step rfl (oj_storeW 9 Try.sizeOf23 (fe_t rfl) (fe_t rfl) rfl rfl rfl rfl rfl (?_))
                                                  refine tl_step rfl (oj_val (y_assign fe_c) ?_)
                                                  refine tl_step rfl (oj_val (y_assign fe_c) ?_)
                                                  refine tl_nil ?_
                                                  refine tx_then ?_
                                                  refine tr_ret ?_
                                                  refine tx_ret (res3 Try.results16 (rok_b 9 Try.isAgg23 Try.sizeOf23 rfl rfl rfl) (rok_t rfl) (rok_t rfl)) (fun w' hS => ?_)
                                                  refine ⟨?_, hS.pick [] _ rfl (by decide)⟩
                                                  rcases Hcs.out with ⟨h1, h2, h3⟩ | ⟨h1, h2, h3, h4⟩ | ⟨h1, h2, h3⟩ | ⟨h1, h2, h3, h4⟩ | ⟨h1, h2, h3⟩ | ⟨h1, h2⟩
                                                  all_goals first | (exfalso; omega) | (subst h3; rfl) | (subst h4; rfl) | (subst h2; rfl)
                                          · try (first | (exfalso; omega) | (have hk2 : k = 0 ∨ k = 1 := (by omega); rcases hk2 with rfl | rfl))
                                            all_goals
                                              refine tl_skip rfl rfl rfl rfl ?_
                                              refine tl_skip rfl rfl rfl rfl ?_
                                              refine tl_skip rfl rfl rfl rfl ?_
                                              refine tl_skip rfl rfl rfl rfl ?_
                                              refine tl_skip rfl rfl rfl rfl ?_
                                              refine tl_step rfl (oj_val (y_pickf (fe_t rfl) fe_c) ?_)
                                              refine tl_nil ?_
                                              refine tx_then ?_
                                              refine tr_condf (fe_t rfl) ?_
                                              refine tr_skip ?_
                                              refine tx_then ?_
                                              refine tr_seq ?_
                                              refine tr_region ?_
                                              refine tl_step rfl (oj_val (y_ldbA 11 Try.isAgg23 Try.sizeOf23 (fe_t rfl) rfl rfl rfl) ?_)
                                              refine tl_step rfl (oj_storeW 9 Try.sizeOf23 (fe_t rfl) (fe_t rfl) rfl rfl rfl rfl rfl (?_))
                                              refine tl_step rfl (oj_val (y_assign fe_c) ?_)
                                              refine tl_step rfl (oj_val (y_assign fe_c) ?_)
                                              refine tl_nil ?_
                                              refine tx_then ?_
                                              refine tr_ret ?_
                                              refine tx_ret (res3 Try.results16 (rok_b 9 Try.isAgg23 Try.sizeOf23 rfl rfl rfl) (rok_t rfl) (rok_t rfl)) (fun w' hS => ?_)
                                              refine ⟨?_, hS.pick [] _ rfl (by decide)⟩
                                              rcases Hcs.out with ⟨h1, h2, h3⟩ | ⟨h1, h2, h3, h4⟩ | ⟨h1, h2, h3⟩ | ⟨h1, h2, h3, h4⟩ | ⟨h1, h2, h3⟩ | ⟨h1, h2⟩
                                              all_goals first | (exfalso; omega) | (subst h3; rfl) | (subst h4; rfl) | (subst h2; rfl)
                              · try (first | (exfalso; omega) | (have hk2 : k = 0 ∨ k = 1 := (by omega); rcases hk2 with rfl | rfl))
                                all_goals
                                  have hlt := cmp_ge hq44
                                  refine tr_skip ?_
                                  refine tx_then ?_
                                  refine tr_seq ?_
                                  refine tr_seq ?_
                                  refine tr_region ?_
                                  refine tl_step rfl (oj_val (y_fieldAddr (td := 3) Try.underlying23 rfl rfl Try.sizeOf3 (o' := 3) rfl (fe_t rfl)) ?_)
                                  refine tl_step rfl (oj_val (y_fieldAddr (td := 3) Try.underlying23 rfl rfl Try.sizeOf3 (o' := 1) rfl (fe_t rfl)) ?_)
                                  refine tl_step rfl (oj_val (y_ldb 10 Try.isAgg3 (fe_t rfl) rfl rfl) ?_)
                                  refine tl_step rfl (oj_val ((fun {u0 u1} hx hb => y_build (is := [0, 1]) (vs := [u0, u1]) (cs := [u0, u1]) rfl hx hb) (fel_cons (fe_t rfl) (fel_cons (fe_t rfl) fel_nil)) (by kernel_rfl)) ?_)
                                  refine tl_step rfl (oj_val (y_fieldAddr (td := 3) Try.underlying23 rfl rfl Try.sizeOf3 (o' := 4) rfl (fe_t rfl)) ?_)
                                  refine tl_step rfl (oj_val (y_fieldAddr (td := 3) Try.underlying23 rfl rfl Try.sizeOf3 (o' := 2) rfl (fe_t rfl)) ?_)
                                  refine tl_step rfl (oj_val (y_ldb 10 Try.isAgg3 (fe_t rfl) rfl rfl) ?_)
                                  refine tl_step rfl (oj_val ((fun {u0 u1} hx hb => y_build (is := [0, 1]) (vs := [u0, u1]) (cs := [u0, u1]) rfl hx hb) (fel_cons (fe_t rfl) (fel_cons (fe_t rfl) fel_nil)) (by kernel_rfl)) ?_)
                                  refine tl_step rfl (oj_litA2 Try.underlying137 Try.sizeOf136 Try.zeroValue136 (fe_t rfl) (fe_t rfl) (fun gl => ?_))
                                  refine tl_step rfl (oj_val (y_len Try.underlying137 (fe_t rfl)) ?_)
                                  refine tl_step rfl (oj_val (y_move fe_c) ?_)
                                  refine tl_nil ?_
                                  refine tx_then ?_
                                  refine tr_block ?_
                                  refine tr_loop4 [10, 12, 13, 74, 75, 76, 77, 78, 79, 80, 81, 82, 83, 84, 85, 86, 87, 88, 89, 90, 91, 92, 93, 94, 95, 96, 97] (fun (k : Nat) (g : Int) (F' : Int) (S' : Int) => [(74, .int .i64 (k : Int)), (10, .int .i64 g)]) 0 (fun (k : Nat) (g : Int) (F' : Int) (S' : Int) => [(11, blk m [(.int .i64 C), (.int .i64 B), (.int .i64 E), (.int .i64 F'), (.int .i64 S'), (.int .i64 T)])]) (fun (k : Nat) (g : Int) (F' : Int) (S' : Int) => (k = 0 ∧ g = n0 ∧ F' = F ∧ S' = S) ∨ (k = 1 ∧ g = n0 - x ∧ F' = F + x ∧ S' = S) ∨ (k = 2 ∧ g = n0 - x - y ∧ F' = F + x ∧ S' = S + y)) (fun (k : Nat) (g : Int) (F' : Int) (S' : Int) => 2 - k) (0) (n0) (F) (S) (cov_cons (by first | rfl | exact v_int (by omega) | exact v_bool (by simp [*])) (cov_cons (by first | rfl | exact v_int (by omega) | exact v_bool (by simp [*])) (cov_nil))) (fun w h => h) ?_ ?_
                                  · try dsimp only
                                    exact .inl ⟨rfl, rfl, rfl, rfl⟩
                                  intro k g F' S' hp
                                  refine tr_seq ?_
                                  refine tr_region ?_
                                  refine tl_step rfl (oj_val (y_lss (fe_t rfl) (fe_t rfl)) ?_)
                                  refine tl_nil ?_
                                  refine tx_then ?_
                                  refine tr_seq ?_
                                  refine tr_condp (fe_t rfl) (fun hq59 => ?_) (fun hq60 => ?_)
                                  · try (first | (exfalso; omega) | (have hk2 : k = 0 ∨ k = 1 := (by omega); rcases hk2 with rfl | rfl))
                                    all_goals
                                      refine tr_skip ?_
                                      refine tx_then ?_
                                      refine tr_seq ?_
                                      refine tr_block ?_
                                      refine tr_seq ?_
                                      refine tr_region ?_
                                      refine tl_step rfl (oj_val (y_index Try.underlying137 Try.sizeOf136 (fe_t rfl) (fe_t rfl) (rdl_vec 0 rfl) (rfl) (by decide) (by omega) rfl) ?_)
                                      refine tl_step rfl (oj_val (y_ldL Try.isAgg136 Try.sizeOf136 (fe_t rfl) (rdl_vec 0 rfl) rfl (by decide)) ?_)
                                      refine tl_step rfl (oj_alloc Try.zeroValue136 (fun lb => ?_))
                                      refine tl_step rfl (oj_storeW 0 Try.sizeOf136 (fe_t rfl) (fe_t rfl) rfl rfl rfl rfl rfl (?_))
                                      refine tl_nil ?_
                                      refine tx_then ?_
                                      refine tr_seq ?_
                                      refine tr_draw (sel _ [0, 1, 2, 3, 4, 5, 6, 7, 8, 9, 10, 11, 12]) (fun w h => h.sel _ rfl (by decide)) rfl ?_
                                      refine ta_float (i := 0) rfl (by kernel_rfl) (wants_none rfl) (yq_of (y_move (fe_t rfl))) ?_
                                      refine ta_float (i := 1) rfl (by kernel_rfl) (wants_none rfl) (yq_of (y_fieldAddr (td := 3) Try.underlying136 rfl rfl Try.sizeOf3 (o' := 1) rfl (fe_t rfl))) ?_
                                      refine ta_float (i := 2) rfl (by kernel_rfl) (wants_none rfl) (yq_of (y_ldb 0 Try.isAgg3 (fe_t rfl) rfl rfl)) ?_
                                      refine ta_float (i := 3) rfl (by kernel_rfl) (wants_none rfl) (yq_of (y_fieldAddr (td := 135) Try.underlying136 rfl rfl Try.sizeOf135 (o' := 0) rfl (fe_t rfl))) ?_
                                      refine ta_float (i := 4) rfl (by kernel_rfl) (wants_none rfl) (yq_of (y_ldb 0 Try.isAgg135 (fe_t rfl) rfl rfl)) ?_
                                      refine ta_float (i := 5) rfl (by kernel_rfl) (wants_none rfl) (yq_of (y_nilCheck (fe_t rfl))) ?_
                                      refine ta_float (i := 6) rfl (by kernel_rfl) (wants_none rfl) (yq_of (y_ldb 12 Try.isAgg3 (fe_t rfl) rfl rfl)) ?_
                                      refine ta_float (i := 7) rfl (by kernel_rfl) (wants_none rfl) (yq_of (y_sub (fe_t rfl) (fe_t rfl) (by omega))) ?_
                                      refine ta_float (i := 8) rfl (by kernel_rfl) (wants_none rfl) (yq_of (y_min (fe_t rfl) (fe_t rfl))) ?_
                                      refine ta_float (i := 9) rfl (by kernel_rfl) (wants_none rfl) (yq_of (y_assign (fe_t rfl))) ?_
                                      refine ta_done (by kernel_rfl) ?_
                                      refine tx_then ?_
                                      refine tr_seq ?_
                                      refine tr_region ?_
                                      refine tl_step rfl (oj_val (y_fieldAddr (td := 135) Try.underlying136 rfl rfl Try.sizeOf135 (o' := 0) rfl (fe_t rfl)) ?_)
                                      refine tl_step rfl (oj_val (y_ldb 0 Try.isAgg135 (fe_t rfl) rfl rfl) ?_)
                                      refine tl_step rfl (oj_val (y_nilCheck (fe_t rfl)) ?_)
                                      refine tl_step rfl (oj_val (y_ldb 12 Try.isAgg3 (fe_t rfl) rfl rfl) ?_)
                                      refine tl_step rfl (oj_val (y_move (fe_t rfl)) ?_)
                                      refine tl_step rfl (oj_val (y_add (fe_t rfl) (fe_t rfl) (by omega)) ?_)
                                      refine tl_step rfl (oj_val (y_nilCheck (fe_t rfl)) ?_)
                                      refine tl_step rfl (oj_store1 12 Try.sizeOf3 (fe_t rfl) (fe_t rfl) rfl rfl rfl rfl (?_))
                                      refine tl_nil ?_
                                      refine tx_then ?_
                                      refine tr_region ?_
                                      refine tl_step rfl (oj_val (y_move (fe_t rfl)) ?_)
                                      refine tl_step rfl (oj_val (y_move (fe_t rfl)) ?_)
                                      refine tl_step rfl (oj_val (y_sub (fe_t rfl) (fe_t rfl) (by omega)) ?_)
                                      refine tl_step rfl (oj_val (y_assign (fe_t rfl)) ?_)
                                      refine tl_nil ?_
                                      refine tx_in ?_
                                      refine tx_then ?_
                                      refine tr_region ?_
                                      refine tl_step rfl (oj_val (y_inc (fe_t rfl) fe_c (by omega)) ?_)
                                      refine tl_step rfl (oj_val (y_move (fe_t rfl)) ?_)
                                      refine tl_nil ?_
                                      apply tx_back4 (_) (_) (_) (_)
                                      · exact (cov_cons (by first | rfl | exact v_int (by omega) | exact v_bool (by simp [*])) (cov_cons (by first | rfl | exact v_int (by omega) | exact v_bool (by simp [*])) (cov_nil)))
                                      · repeat (first | exact over_nil | refine over_put rfl ?_ | refine over_drop rfl ?_)
                                      · exact fun w h => h.pick [1, 2, 3, 4, 5, 6, 7, 8, 9, 10, 11, 12] _ rfl (by decide)
                                      · exact ⟨by omega, by omega⟩
                                  · try (first | (exfalso; omega) | (have hk2 : k = 0 ∨ k = 1 := (by omega); rcases hk2 with rfl | rfl))
                                    all_goals
                                      refine tr_exit ?_
                                      refine tx_then_exit ?_
                                      refine tx_then_exit ?_
                                      refine tx_in_exit ?_
                                      refine tx_then ?_
                                      refine tr_seq ?_
                                      obtain ⟨hF', hS'⟩ : F' = F + x ∧ S' = S + y := by omega
                                      subst hF' hS'
                                      clear hp hx hy hN
                                      refine tr_region ?_
                                      refine tl_step rfl (oj_val (y_fieldAddr (td := 3) Try.underlying25 rfl rfl Try.sizeOf3 (o' := 0) rfl (fe_t rfl)) ?_)
                                      refine tl_step rfl (oj_val (y_ldb 10 Try.isAgg3 (fe_t rfl) rfl rfl) ?_)
                                      refine tl_step rfl (oj_val (y_fieldAddr (td := 3) Try.underlying23 rfl rfl Try.sizeOf3 (o' := 5) rfl (fe_t rfl)) ?_)
                                      refine tl_step rfl (oj_store1 11 Try.sizeOf3 (fe_t rfl) (fe_t rfl) rfl rfl rfl rfl (?_))
                                      refine tl_nil ?_
                                      refine tx_then ?_
                                      refine tr_seq ?_
                                      refine tr_seq ?_
                                      refine tr_region ?_
                                      refine tl_step rfl (oj_val (y_move (fe_t rfl)) ?_)
                                      refine tl_step rfl (oj_val (y_eq (fe_t rfl) fe_c) ?_)
                                      refine tl_step rfl (oj_val (y_move (fe_t rfl)) ?_)
                                      refine tl_splitp (d := 103) rfl (fun hq61 => ?_) (fun hq62 => ?_)
                                      · try (first | (exfalso; omega) | (have hk2 : k = 0 ∨ k = 1 := (by omega); rcases hk2 with rfl | rfl))
                                        all_goals
                                          refine tl_want rfl rfl rfl (oj_val (y_fieldAddr (td := 3) Try.underlying23 rfl rfl Try.sizeOf3 (o' := 3) rfl (fe_t rfl)) ?_)
                                          refine tl_want rfl rfl rfl (oj_val (y_ldb 11 Try.isAgg3 (fe_t rfl) rfl rfl) ?_)
                                          refine tl_want rfl rfl rfl (oj_val (y_fieldAddr (td := 3) Try.underlying25 rfl rfl Try.sizeOf3 (o' := 1) rfl (fe_t rfl)) ?_)
                                          refine tl_want rfl rfl rfl (oj_val (y_ldb 10 Try.isAgg3 (fe_t rfl) rfl rfl) ?_)
                                          refine tl_want rfl rfl rfl (oj_val (y_geq (fe_t rfl) (fe_t rfl)) ?_)
                                          refine tl_step rfl (oj_val (y_pickt (fe_t rfl) (fe_t rfl)) ?_)
                                          refine tl_nil ?_
                                          refine tx_then ?_
                                          refine tr_condp (fe_t rfl) (fun hq63 => ?_) (fun hq64 => ?_)
                                          · try (first | (exfalso; omega) | (have hk2 : k = 0 ∨ k = 1 := (by omega); rcases hk2 with rfl | rfl))
                                            all_goals
                                              refine tr_seq ?_
                                              refine tr_region ?_
                                              refine tl_step rfl (oj_val (y_fieldAddr (td := 3) Try.underlying23 rfl rfl Try.sizeOf3 (o' := 3) rfl (fe_t rfl)) ?_)
                                              refine tl_step rfl (oj_val (y_ldb 11 Try.isAgg3 (fe_t rfl) rfl rfl) ?_)
                                              refine tl_step rfl (oj_val (y_fieldAddr (td := 3) Try.underlying25 rfl rfl Try.sizeOf3 (o' := 1) rfl (fe_t rfl)) ?_)
                                              refine tl_step rfl (oj_val (y_ldb 10 Try.isAgg3 (fe_t rfl) rfl rfl) ?_)
                                              refine tl_step rfl (oj_val (y_sub (fe_t rfl) (fe_t rfl) (by omega)) ?_)
                                              refine tl_step rfl (oj_val (y_fieldAddr (td := 3) Try.underlying23 rfl rfl Try.sizeOf3 (o' := 3) rfl (fe_t rfl)) ?_)
                                              refine tl_step rfl (oj_store1 11 Try.sizeOf3 (fe_t rfl) (fe_t rfl) rfl rfl rfl rfl (?_))
                                              refine tl_nil ?_
                                              refine tx_then ?_
                                              refine tr_seq ?_
                                              refine tr_region ?_
                                              refine tl_step rfl (oj_val (y_ldbA 11 Try.isAgg23 Try.sizeOf23 (fe_t rfl) rfl rfl rfl) ?_)
                                              refine tl_step rfl (oj_storeW 9 Try.sizeOf23 (fe_t rfl) (fe_t rfl) rfl rfl rfl rfl rfl (?_))
                                              refine tl_step rfl (oj_val (y_assign fe_c) ?_)
                                              refine tl_step rfl (oj_val (y_assign fe_c) ?_)
                                              refine tl_nil ?_
                                              refine tx_then ?_
                                              refine tr_ret ?_
                                              refine tx_then_ret ?_
                                              refine tx_ret (res3 Try.results16 (rok_b 9 Try.isAgg23 Try.sizeOf23 rfl rfl rfl) (rok_t rfl) (rok_t rfl)) (fun w' hS => ?_)
                                              refine ⟨?_, hS.pick [] _ rfl (by decide)⟩
                                              rcases Hcs.out with ⟨h1, h2, h3⟩ | ⟨h1, h2, h3, h4⟩ | ⟨h1, h2, h3⟩ | ⟨h1, h2, h3, h4⟩ | ⟨h1, h2, h3⟩ | ⟨h1, h2⟩
                                              all_goals first | (exfalso; omega) | (subst h3; rfl) | (subst h4; rfl) | (subst h2; rfl)
                                          · try (first | (exfalso; omega) | (have hk2 : k = 0 ∨ k = 1 := (by omega); rcases hk2 with rfl | rfl))
                                            all_goals
                                              refine tr_skip ?_
                                              refine tx_then ?_
                                              refine tr_seq ?_
                                              refine tr_seq ?_
                                              refine tr_region ?_
                                              refine tl_step rfl (oj_val (y_move (fe_t rfl)) ?_)
                                              refine tl_step rfl (oj_val (y_lss (fe_t rfl) fe_c) ?_)
                                              refine tl_step rfl (oj_val (y_move (fe_t rfl)) ?_)
                                              refine tl_splitp (d := 119) rfl (fun hq65 => ?_) (fun hq66 => ?_)
                                              · try (first | (exfalso; omega) | (have hk2 : k = 0 ∨ k = 1 := (by omega); rcases hk2 with rfl | rfl))
                                                all_goals
                                                  refine tl_want rfl rfl rfl (oj_val (y_fieldAddr (td := 3) Try.underlying23 rfl rfl Try.sizeOf3 (o' := 4) rfl (fe_t rfl)) ?_)
                                                  refine tl_want rfl rfl rfl (oj_val (y_ldb 11 Try.isAgg3 (fe_t rfl) rfl rfl) ?_)
                                                  refine tl_want rfl rfl rfl (oj_val (y_fieldAddr (td := 3) Try.underlying25 rfl rfl Try.sizeOf3 (o' := 1) rfl (fe_t rfl)) ?_)
                                                  refine tl_want rfl rfl rfl (oj_val (y_ldb 10 Try.isAgg3 (fe_t rfl) rfl rfl) ?_)
                                                  refine tl_want rfl rfl rfl (oj_val (y_geq (fe_t rfl) (fe_t rfl)) ?_)
                                                  refine tl_step rfl (oj_val (y_pickt (fe_t rfl) (fe_t rfl)) ?_)
                                                  refine tl_nil ?_
                                                  refine tx_then ?_
                                                  refine tr_condp (fe_t rfl) (fun hq67 => ?_) (fun hq68 => ?_)
                                                  · try (first | (exfalso; omega) | (have hk2 : k = 0 ∨ k = 1 := (by omega); rcases hk2 with rfl | rfl))
                                                    all_goals
                                                      refine tr_seq ?_
                                                      refine tr_region ?_
                                                      refine tl_step rfl (oj_val (y_fieldAddr (td := 3) Try.underlying23 rfl rfl Try.sizeOf3 (o' := 4) rfl (fe_t rfl)) ?_)
                                                      refine tl_step rfl (oj_val (y_ldb 11 Try.isAgg3 (fe_t rfl) rfl rfl) ?_)
                                                      refine tl_step rfl (oj_val (y_fieldAddr (td := 3) Try.underlying25 rfl rfl Try.sizeOf3 (o' := 1) rfl (fe_t rfl)) ?_)
                                                      refine tl_step rfl (oj_val (y_ldb 10 Try.isAgg3 (fe_t rfl) rfl rfl) ?_)
                                                      refine tl_step rfl (oj_val (y_sub (fe_t rfl) (fe_t rfl) (by omega)) ?_)
                                                      refine tl_step rfl (oj_val (y_fieldAddr (td := 3) Try.underlying23 rfl rfl Try.sizeOf3 (o' := 4) rfl (fe_t rfl)) ?_)
                                                      refine tl_step rfl (oj_store1 11 Try.sizeOf3 (fe_t rfl) (fe_t rfl) rfl rfl rfl rfl (?_))
                                                      refine tl_nil ?_
                                                      refine tx_then ?_
                                                      refine tr_seq ?_
                                                      refine tr_region ?_
                                                      refine tl_step rfl (oj_val (y_ldbA 11 Try.isAgg23 Try.sizeOf23 (fe_t rfl) rfl rfl rfl) ?_)
                                                      refine tl_step rfl (oj_storeW 9 Try.sizeOf23 (fe_t rfl) (fe_t rfl) rfl rfl rfl rfl rfl (?_))
                                                      refine tl_step rfl (oj_val (y_assign fe_c) ?_)
                                                      refine tl_step rfl (oj_val (y_assign fe_c) ?_)
                                                      refine tl_nil ?_
                                                      refine tx_then ?_
                                                      refine tr_ret ?_
                                                      refine tx_then_ret ?_
                                                      refine tx_ret (res3 Try.results16 (rok_b 9 Try.isAgg23 Try.sizeOf23 rfl rfl rfl) (rok_t rfl) (rok_t rfl)) (fun w' hS => ?_)
                                                      refine ⟨?_, hS.pick [] _ rfl (by decide)⟩
                                                      rcases Hcs.out with ⟨h1, h2, h3⟩ | ⟨h1, h2, h3, h4⟩ | ⟨h1, h2, h3⟩ | ⟨h1, h2, h3, h4⟩ | ⟨h1, h2, h3⟩ | ⟨h1, h2⟩
                                                      all_goals first | (exfalso; omega) | (subst h3; rfl) | (subst h4; rfl) | (subst h2; rfl)
                                                  · try (first | (exfalso; omega) | (have hk2 : k = 0 ∨ k = 1 := (by omega); rcases hk2 with rfl | rfl))
                                                    all_goals
                                                      refine tr_skip ?_
                                                      refine tx_then ?_
                                                      refine tr_seq ?_
                                                      refine tr_region ?_
                                                      refine tl_step rfl (oj_val (y_ldbA 11 Try.isAgg23 Try.sizeOf23 (fe_t rfl) rfl rfl rfl) ?_)
                                                      refine tl_step rfl (oj_storeW 9 Try.sizeOf23 (fe_t rfl) (fe_t rfl) rfl rfl rfl rfl rfl (?_))
                                                      refine tl_step rfl (oj_val (y_assign fe_c) ?_)
                                                      refine tl_step rfl (oj_val (y_assign fe_c) ?_)
                                                      refine tl_nil ?_
                                                      refine tx_then ?_
                                                      refine tr_ret ?_
                                                      refine tx_ret (res3 Try.results16 (rok_b 9 Try.isAgg23 Try.sizeOf23 rfl rfl rfl) (rok_t rfl) (rok_t rfl)) (fun w' hS => ?_)
                                                      refine ⟨?_, hS.pick [] _ rfl (by decide)⟩
                                                      rcases Hcs.out with ⟨h1, h2, h3⟩ | ⟨h1, h2, h3, h4⟩ | ⟨h1, h2, h3⟩ | ⟨h1, h2, h3, h4⟩ | ⟨h1, h2, h3⟩ | ⟨h1, h2⟩
                                                      all_goals first | (exfalso; omega) | (subst h3; rfl) | (subst h4; rfl) | (subst h2; rfl)
                                              · try (first | (exfalso; omega) | (have hk2 : k = 0 ∨ k = 1 := (by omega); rcases hk2 with rfl | rfl))
                                                all_goals
                                                  refine tl_skip rfl rfl rfl rfl ?_
                                                  refine tl_skip rfl rfl rfl rfl ?_
                                                  refine tl_skip rfl rfl rfl rfl ?_
                                                  refine tl_skip rfl rfl rfl rfl ?_
                                                  refine tl_skip rfl rfl rfl rfl ?_
                                                  refine tl_step rfl (oj_val (y_pickf (fe_t rfl) fe_c) ?_)
                                                  refine tl_nil ?_
                                                  refine tx_then ?_
                                                  refine tr_condf (fe_t rfl) ?_
                                                  refine tr_skip ?_
                                                  refine tx_then ?_
                                                  refine tr_seq ?_
                                                  refine tr_region ?_
                                                  refine tl_step rfl (oj_val (y_ldbA 11 Try.isAgg23 Try.sizeOf23 (fe_t rfl) rfl rfl rfl) ?_)
                                                  refine tl_step rfl (oj_storeW 9 Try.sizeOf23 (fe_t rfl) (fe_t rfl) rfl rfl rfl rfl rfl (?_))
                                                  refine tl_step rfl (oj_val (y_assign fe_c) ?_)
                                                  refine tl_step rfl (oj_val (y_assign fe_c) ?_)
                                                  refine tl_nil ?_
                                                  refine tx_then ?_
                                                  refine tr_ret ?_
                                                  refine tx_ret (res3 Try.results16 (rok_b 9 Try.isAgg23 Try.sizeOf23 rfl rfl rfl) (rok_t rfl) (rok_t rfl)) (fun w' hS => ?_)
                                                  refine ⟨?_, hS.pick [] _ rfl (by decide)⟩
                                                  rcases Hcs.out with ⟨h1, h2, h3⟩ | ⟨h1, h2, h3, h4⟩ | ⟨h1, h2, h3⟩ | ⟨h1, h2, h3, h4⟩ | ⟨h1, h2, h3⟩ | ⟨h1, h2⟩
                                                  all_goals first | (exfalso; omega) | (subst h3; rfl) | (subst h4; rfl) | (subst h2; rfl)
                                      · try (first | (exfalso; omega) | (have hk2 : k = 0 ∨ k = 1 := (by omega); rcases hk2 with rfl | rfl))
                                        all_goals
                                          refine tl_skip rfl rfl rfl rfl ?_
                                          refine tl_skip rfl rfl rfl rfl ?_
                                          refine tl_skip rfl rfl rfl rfl ?_
                                          refine tl_skip rfl rfl rfl rfl ?_
                                          refine tl_skip rfl rfl rfl rfl ?_
                                          refine tl_step rfl (oj_val (y_pickf (fe_t rfl) fe_c) ?_)
                                          refine tl_nil ?_
                                          refine tx_then ?_
                                          refine tr_condf (fe_t rfl) ?_
                                          refine tr_skip ?_
                                          refine tx_then ?_
                                          refine tr_seq ?_
                                          refine tr_seq ?_
                                          refine tr_region ?_
                                          refine tl_step rfl (oj_val (y_move (fe_t rfl)) ?_)
                                          refine tl_step rfl (oj_val (y_lss (fe_t rfl) fe_c) ?_)
                                          refine tl_step rfl (oj_val (y_move (fe_t rfl)) ?_)
                                          refine tl_splitp (d := 119) rfl (fun hq69 => ?_) (fun hq70 => ?_)
                                          · try (first | (exfalso; omega) | (have hk2 : k = 0 ∨ k = 1 := (by omega); rcases hk2 with rfl | rfl))
                                            all_goals
                                              refine tl_want rfl rfl rfl (oj_val (y_fieldAddr (td := 3) Try.underlying23 rfl rfl Try.sizeOf3 (o' := 4) rfl (fe_t rfl)) ?_)
                                              refine tl_want rfl rfl rfl (oj_val (y_ldb 11 Try.isAgg3 (fe_t rfl) rfl rfl) ?_)
                                              refine tl_want rfl rfl rfl (oj_val (y_fieldAddr (td := 3) Try.underlying25 rfl rfl Try.sizeOf3 (o' := 1) rfl (fe_t rfl)) ?_)
                                              refine tl_want rfl rfl rfl (oj_val (y_ldb 10 Try.isAgg3 (fe_t rfl) rfl rfl) ?_)
                                              refine tl_want rfl rfl rfl (oj_val (y_geq (fe_t rfl) (fe_t rfl)) ?_)
                                              refine tl_step rfl (oj_val (y_pickt (fe_t rfl) (fe_t rfl)) ?_)
                                              refine tl_nil ?_
                                              refine tx_then ?_
                                              refine tr_condp (fe_t rfl) (fun hq71 => ?_) (fun hq72 => ?_)
                                              · try (first | (exfalso; omega) | (have hk2 : k = 0 ∨ k = 1 := (by omega); rcases hk2 with rfl | rfl))
                                                all_goals
                                                  refine tr_seq ?_
                                                  refine tr_region ?_
                                                  refine tl_step rfl (oj_val (y_fieldAddr (td := 3) Try.underlying23 rfl rfl Try.sizeOf3 (o' := 4) rfl (fe_t rfl)) ?_)
                                                  refine tl_step rfl (oj_val (y_ldb 11 Try.isAgg3 (fe_t rfl) rfl rfl) ?_)
                                                  refine tl_step rfl (oj_val (y_fieldAddr (td := 3) Try.underlying25 rfl rfl Try.sizeOf3 (o' := 1) rfl (fe_t rfl)) ?_)
                                                  refine tl_step rfl (oj_val (y_ldb 10 Try.isAgg3 (fe_t rfl) rfl rfl) ?_)
                                                  refine tl_step rfl (oj_val (y_sub (fe_t rfl) (fe_t rfl) (by omega)) ?_)
                                                  refine tl_step rfl (oj_val (y_fieldAddr (td := 3) Try.underlying23 rfl rfl Try.sizeOf3 (o' := 4) rfl (fe_t rfl)) ?_)
                                                  refine tl_step rfl (oj_store1 11 Try.sizeOf3 (fe_t rfl) (fe_t rfl) rfl rfl rfl rfl (?_))
                                                  refine tl_nil ?_
                                                  refine tx_then ?_
                                                  refine tr_seq ?_
                                                  refine tr_region ?_
                                                  refine tl_step rfl (oj_val (y_ldbA 11 Try.isAgg23 Try.sizeOf23 (fe_t rfl) rfl rfl rfl) ?_)
                                                  refine tl_step rfl (oj_storeW 9 Try.sizeOf23 (fe_t rfl) (fe_t rfl) rfl rfl rfl rfl rfl (?_))
                                                  refine tl_step rfl (oj_val (y_assign fe_c) ?_)
                                                  refine tl_step rfl (oj_val (y_assign fe_c) ?_)
                                                  refine tl_nil ?_
                                                  refine tx_then ?_
                                                  refine tr_ret ?_
                                                  refine tx_then_ret ?_
                                                  refine tx_ret (res3 Try.results16 (rok_b 9 Try.isAgg23 Try.sizeOf23 rfl rfl rfl) (rok_t rfl) (rok_t rfl)) (fun w' hS => ?_)
                                                  refine ⟨?_, hS.pick [] _ rfl (by decide)⟩
                                                  rcases Hcs.out with ⟨h1, h2, h3⟩ | ⟨h1, h2, h3, h4⟩ | ⟨h1, h2, h3⟩ | ⟨h1, h2, h3, h4⟩ | ⟨h1, h2, h3⟩ | ⟨h1, h2⟩
                                                  all_goals first | (exfalso; omega) | (subst h3; rfl) | (subst h4; rfl) | (subst h2; rfl)
                                              · try (first | (exfalso; omega) | (have hk2 : k = 0 ∨ k = 1 := (by omega); rcases hk2 with rfl | rfl))
                                                all_goals
                                                  refine tr_skip ?_
                                                  refine tx_then ?_
                                                  refine tr_seq ?_
                                                  refine tr_region ?_
                                                  refine tl_step rfl (oj_val (y_ldbA 11 Try.isAgg23 Try.sizeOf23 (fe_t rfl) rfl rfl rfl) ?_)
                                                  refine tl_step rfl (oj_storeW 9 Try.sizeOf23 (fe_t rfl) (fe_t rfl) rfl rfl rfl rfl rfl (?_))
                                                  refine tl_step rfl (oj_val (y_assign fe_c) ?_)
                                                  refine tl_step rfl (oj_val (y_assign fe_c) ?_)
                                                  refine tl_nil ?_
                                                  refine tx_then ?_
                                                  refine tr_ret ?_
                                                  refine tx_ret (res3 Try.results16 (rok_b 9 Try.isAgg23 Try.sizeOf23 rfl rfl rfl) (rok_t rfl) (rok_t rfl)) (fun w' hS => ?_)
                                                  refine ⟨?_, hS.pick [] _ rfl (by decide)⟩
                                                  rcases Hcs.out with ⟨h1, h2, h3⟩ | ⟨h1, h2, h3, h4⟩ | ⟨h1, h2, h3⟩ | ⟨h1, h2, h3, h4⟩ | ⟨h1, h2, h3⟩ | ⟨h1, h2⟩
                                                  all_goals first | (exfalso; omega) | (subst h3; rfl) | (subst h4; rfl) | (subst h2; rfl)
                                          · try (first | (exfalso; omega) | (have hk2 : k = 0 ∨ k = 1 := (by omega); rcases hk2 with rfl | rfl))
                                            all_goals
                                              refine tl_skip rfl rfl rfl rfl ?_
                                              refine tl_skip rfl rfl rfl rfl ?_
                                              refine tl_skip rfl rfl rfl rfl ?_
                                              refine tl_skip rfl rfl rfl rfl ?_
                                              refine tl_skip rfl rfl rfl rfl ?_
                                              refine tl_step rfl (oj_val (y_pickf (fe_t rfl) fe_c) ?_)
                                              refine tl_nil ?_
                                              refine tx_then ?_
                                              refine tr_condf (fe_t rfl) ?_
                                              refine tr_skip ?_
                                              refine tx_then ?_
                                              refine tr_seq ?_
                                              refine tr_region ?_
                                              refine tl_step rfl (oj_val (y_ldbA 11 Try.isAgg23 Try.sizeOf23 (fe_t rfl) rfl rfl rfl) ?_)
                                              refine tl_step rfl (oj_storeW 9 Try.sizeOf23 (fe_t rfl) (fe_t rfl) rfl rfl rfl rfl rfl (?_))
                                              refine tl_step rfl (oj_val (y_assign fe_c) ?_)
                                              refine tl_step rfl (oj_val (y_assign fe_c) ?_)
                                              refine tl_nil ?_
                                              refine tx_then ?_
                                              refine tr_ret ?_
                                              refine tx_ret (res3 Try.results16 (rok_b 9 Try.isAgg23 Try.sizeOf23 rfl rfl rfl) (rok_t rfl) (rok_t rfl)) (fun w' hS => ?_)
                                              refine ⟨?_, hS.pick [] _ rfl (by decide)⟩
                                              rcases Hcs.out with ⟨h1, h2, h3⟩ | ⟨h1, h2, h3, h4⟩ | ⟨h1, h2, h3⟩ | ⟨h1, h2, h3, h4⟩ | ⟨h1, h2, h3⟩ | ⟨h1, h2⟩
                                              all_goals first | (exfalso; omega) | (subst h3; rfl) | (subst h4; rfl) | (subst h2; rfl)
                            · refine oj_call2 Try.call70 fe_f (fel_cons (fe_t rfl) fel_nil) (fun w' hS => newE hS (now - T) (by omega) (by omega)) (fun p2 hp2 => ⟨fun w h => h.pick [5, 6, 7] _ rfl (by decide), ?_⟩)
                              refine ta_one (i := 0) rfl (by kernel_rfl) (wants_none rfl) (oj_alloc Try.zeroValue130 (fun zb => ⟨fun w h => h.pick [6, 7, 8] _ rfl (by decide), ?_⟩))
                              refine ta_one (i := 10) rfl (by kernel_rfl) (wants_none rfl) (oj_call2 Try.call69 fe_f (fel_cons (fe_t rfl) (fel_cons (fe_t rfl) (fel_cons (fe_t rfl) fel_nil))) (fun w' hS => mulE zb p1.1 p2.1 ⟨false, none, 0, 0, []⟩ p1.2 p2.2 C (now - T) (hS.sel [0, 5, 3, 4, 1, 2, 6, 7, 8] rfl (by decide)) hp1 hp2 (nm_small hp1 (by omega) (by omega)) (nm_small hp2 (by omega) (by omega))) (fun q1 hq1 => ⟨fun w h => h.pick [6, 7, 8] _ rfl (by decide), ?_⟩))
                              refine ta_float (i := 11) rfl (by kernel_rfl) (wants_none rfl) (yq_of (y_assign (fe_t rfl))) ?_
                              refine ta_done (by kernel_rfl) ?_
                              refine tx_then ?_
                              refine tr_seq ?_
                              refine tr_region ?_
                              refine tl_step rfl (oj_val (y_assign fe_c) ?_)
                              refine tl_nil ?_
                              refine tx_then ?_
                              refine tr_seq ?_
                              refine tr_seq ?_
                              refine tr_region ?_
                              refine tl_step rfl (oj_val (y_move (fe_t rfl)) ?_)
                              refine tl_step rfl (oj_val (y_move (fe_t rfl)) ?_)
                              refine tl_step rfl (oj_call2 Try.call70 fe_f (fel_cons (fe_t rfl) fel_nil) (fun w' hS => newE hS (4194304) (by omega) (by omega)) (fun p3 hp3 => ?_))
                              refine tl_step rfl (oj_callv Try.call71 fe_f (fel_cons (fe_t rfl) (fel_cons (fe_t rfl) fel_nil)) (fun w' hS => of_drn (cmp_any zb 0 p3.1 0 (C * (now - T)) 4194304 w' (int_at hS 2 3 rfl rfl hq1) (int_at hS 0 1 rfl rfl hp3) (sm_i64 (by omega) (by omega)) (sm_i64 (by omega) (by omega)))) ?_)
                              refine tl_step rfl (oj_val (y_lss (fe_t rfl) fe_c) ?_)
                              refine tl_nil ?_
                              refine tx_then ?_
                              refine tr_condp (fe_t rfl) (fun hq73 => ?_) (fun hq74 => ?_)
                              · try (first | (exfalso; omega) | (have hk2 : k = 0 ∨ k = 1 := (by omega); rcases hk2 with rfl | rfl))
                                all_goals
                                  have hlt := cmp_lt hq73
                                  refine tr_region ?_
                                  refine tl_step rfl (oj_val (y_move (fe_t rfl)) ?_)
                                  refine tl_step rfl (oj_callv Try.call72 fe_f (fel_cons (fe_t rfl) fel_nil) (fun w' hS => of_eq (int64_any zb 0 (C * (now - T)) w' (int_at hS 2 3 rfl rfl hq1) (by omega) (by omega))) ?_)
                                  refine tl_step rfl (oj_val (y_assign (fe_t rfl)) ?_)
                                  refine tl_nil ?_
                                  refine tx_then ?_
                                  refine tr_seq ?_
                                  refine tr_seq ?_
                                  refine tr_region ?_
                                  refine tl_step rfl (oj_val (y_fieldAddr (td := 3) Try.underlying23 rfl rfl Try.sizeOf3 (o' := 3) rfl (fe_t rfl)) ?_)
                                  refine tl_step rfl (oj_val (y_fieldAddr (td := 3) Try.underlying23 rfl rfl Try.sizeOf3 (o' := 1) rfl (fe_t rfl)) ?_)
                                  refine tl_step rfl (oj_val (y_ldb 10 Try.isAgg3 (fe_t rfl) rfl rfl) ?_)
                                  refine tl_step rfl (oj_val ((fun {u0 u1} hx hb => y_build (is := [0, 1]) (vs := [u0, u1]) (cs := [u0, u1]) rfl hx hb) (fel_cons (fe_t rfl) (fel_cons (fe_t rfl) fel_nil)) (by kernel_rfl)) ?_)
                                  refine tl_step rfl (oj_val (y_fieldAddr (td := 3) Try.underlying23 rfl rfl Try.sizeOf3 (o' := 4) rfl (fe_t rfl)) ?_)
                                  refine tl_step rfl (oj_val (y_fieldAddr (td := 3) Try.underlying23 rfl rfl Try.sizeOf3 (o' := 2) rfl (fe_t rfl)) ?_)
                                  refine tl_step rfl (oj_val (y_ldb 10 Try.isAgg3 (fe_t rfl) rfl rfl) ?_)
                                  refine tl_step rfl (oj_val ((fun {u0 u1} hx hb => y_build (is := [0, 1]) (vs := [u0, u1]) (cs := [u0, u1]) rfl hx hb) (fel_cons (fe_t rfl) (fel_cons (fe_t rfl) fel_nil)) (by kernel_rfl)) ?_)
                                  refine tl_step rfl (oj_litA2 Try.underlying137 Try.sizeOf136 Try.zeroValue136 (fe_t rfl) (fe_t rfl) (fun gl => ?_))
                                  refine tl_step rfl (oj_val (y_len Try.underlying137 (fe_t rfl)) ?_)
                                  refine tl_step rfl (oj_val (y_move fe_c) ?_)
                                  refine tl_nil ?_
                                  refine tx_then ?_
                                  refine tr_block ?_
                                  refine tr_loop4 [10, 12, 13, 74, 75, 76, 77, 78, 79, 80, 81, 82, 83, 84, 85, 86, 87, 88, 89, 90, 91, 92, 93, 94, 95, 96, 97] (fun (k : Nat) (g : Int) (F' : Int) (S' : Int) => [(74, .int .i64 (k : Int)), (10, .int .i64 g)]) 0 (fun (k : Nat) (g : Int) (F' : Int) (S' : Int) => [(11, blk m [(.int .i64 C), (.int .i64 B), (.int .i64 E), (.int .i64 F'), (.int .i64 S'), (.int .i64 T)])]) (fun (k : Nat) (g : Int) (F' : Int) (S' : Int) => (k = 0 ∧ g = n0 ∧ F' = F ∧ S' = S) ∨ (k = 1 ∧ g = n0 - x ∧ F' = F + x ∧ S' = S) ∨ (k = 2 ∧ g = n0 - x - y ∧ F' = F + x ∧ S' = S + y)) (fun (k : Nat) (g : Int) (F' : Int) (S' : Int) => 2 - k) (0) (n0) (F) (S) (cov_cons (by first | rfl | exact v_int (by omega) | exact v_bool (by simp [*])) (cov_cons (by first | rfl | exact v_int (by omega) | exact v_bool (by simp [*])) (cov_nil))) (fun w h => h) ?_ ?_
                                  · try dsimp only
                                    exact .inl ⟨rfl, rfl, rfl, rfl⟩
                                  intro k g F' S' hp
                                  refine tr_seq ?_
                                  refine tr_region ?_
                                  refine tl_step rfl (oj_val (y_lss (fe_t rfl) (fe_t rfl)) ?_)
                                  refine tl_nil ?_
                                  refine tx_then ?_
                                  refine tr_seq ?_
                                  refine tr_condp (fe_t rfl) (fun hq75 => ?_) (fun hq76 => ?_)
                                  · try (first | (exfalso; omega) | (have hk2 : k = 0 ∨ k = 1 := (by omega); rcases hk2 with rfl | rfl))
                                    all_goals
                                      refine tr_skip ?_
                                      refine tx_then ?_
                                      refine tr_seq ?_
                                      refine tr_block ?_
                                      refine tr_seq ?_
                                      refine tr_region ?_
                                      refine tl_step rfl (oj_val (y_index Try.underlying137 Try.sizeOf136 (fe_t rfl) (fe_t rfl) (rdl_vec 0 rfl) (rfl) (by decide) (by omega) rfl) ?_)
                                      refine tl_step rfl (oj_val (y_ldL Try.isAgg136 Try.sizeOf136 (fe_t rfl) (rdl_vec 0 rfl) rfl (by decide)) ?_)
                                      refine tl_step rfl (oj_alloc Try.zeroValue136 (fun lb => ?_))
                                      refine tl_step rfl (oj_storeW 0 Try.sizeOf136 (fe_t rfl) (fe_t rfl) rfl rfl rfl rfl rfl (?_))
                                      refine tl_nil ?_
                                      refine tx_then ?_
                                      refine tr_seq ?_
                                      refine tr_draw (sel _ [0, 1, 2, 3, 4, 5, 6, 7, 8, 9, 10, 11, 12]) (fun w h => h.sel _ rfl (by decide)) rfl ?_
                                      refine ta_float (i := 0) rfl (by kernel_rfl) (wants_none rfl) (yq_of (y_move (fe_t rfl))) ?_
                                      refine ta_float (i := 1) rfl (by kernel_rfl) (wants_none rfl) (yq_of (y_fieldAddr (td := 3) Try.underlying136 rfl rfl Try.sizeOf3 (o' := 1) rfl (fe_t rfl))) ?_
                                      refine ta_float (i := 2) rfl (by kernel_rfl) (wants_none rfl) (yq_of (y_ldb 0 Try.isAgg3 (fe_t rfl) rfl rfl)) ?_
                                      refine ta_float (i := 3) rfl (by kernel_rfl) (wants_none rfl) (yq_of (y_fieldAddr (td := 135) Try.underlying136 rfl rfl Try.sizeOf135 (o' := 0) rfl (fe_t rfl))) ?_
                                      refine ta_float (i := 4) rfl (by kernel_rfl) (wants_none rfl) (yq_of (y_ldb 0 Try.isAgg135 (fe_t rfl) rfl rfl)) ?_
                                      refine ta_float (i := 5) rfl (by kernel_rfl) (wants_none rfl) (yq_of (y_nilCheck (fe_t rfl))) ?_
                                      refine ta_float (i := 6) rfl (by kernel_rfl) (wants_none rfl) (yq_of (y_ldb 12 Try.isAgg3 (fe_t rfl) rfl rfl)) ?_
                                      refine ta_float (i := 7) rfl (by kernel_rfl) (wants_none rfl) (yq_of (y_sub (fe_t rfl) (fe_t rfl) (by omega))) ?_
                                      refine ta_float (i := 8) rfl (by kernel_rfl) (wants_none rfl) (yq_of (y_min (fe_t rfl) (fe_t rfl))) ?_
                                      refine ta_float (i := 9) rfl (by kernel_rfl) (wants_none rfl) (yq_of (y_assign (fe_t rfl))) ?_
                                      refine ta_done (by kernel_rfl) ?_
                                      refine tx_then ?_
                                      refine tr_seq ?_
                                      refine tr_region ?_
                                      refine tl_step rfl (oj_val (y_fieldAddr (td := 135) Try.underlying136 rfl rfl Try.sizeOf135 (o' := 0) rfl (fe_t rfl)) ?_)
                                      refine tl_step rfl (oj_val (y_ldb 0 Try.isAgg135 (fe_t rfl) rfl rfl) ?_)
                                      refine tl_step rfl (oj_val (y_nilCheck (fe_t rfl)) ?_)
                                      refine tl_step rfl (oj_val (y_ldb 12 Try.isAgg3 (fe_t rfl) rfl rfl) ?_)
                                      refine tl_step rfl (oj_val (y_move (fe_t rfl)) ?_)
                                      refine tl_step rfl (oj_val (y_add (fe_t rfl) (fe_t rfl) (by omega)) ?_)
                                      refine tl_step rfl (oj_val (y_nilCheck (fe_t rfl)) ?_)
                                      refine tl_step rfl (oj_store1 12 Try.sizeOf3 (fe_t rfl) (fe_t rfl) rfl rfl rfl rfl (?_))
                                      refine tl_nil ?_
                                      refine tx_then ?_
                                      refine tr_region ?_
                                      refine tl_step rfl (oj_val (y_move (fe_t rfl)) ?_)
                                      refine tl_step rfl (oj_val (y_move (fe_t rfl)) ?_)
                                      refine tl_step rfl (oj_val (y_sub (fe_t rfl) (fe_t rfl) (by omega)) ?_)
                                      refine tl_step rfl (oj_val (y_assign (fe_t rfl)) ?_)
                                      refine tl_nil ?_
                                      refine tx_in ?_
                                      refine tx_then ?_
                                      refine tr_region ?_
                                      refine tl_step rfl (oj_val (y_inc (fe_t rfl) fe_c (by omega)) ?_)
                                      refine tl_step rfl (oj_val (y_move (fe_t rfl)) ?_)
                                      refine tl_nil ?_
                                      apply tx_back4 (_) (_) (_) (_)
                                      · exact (cov_cons (by first | rfl | exact v_int (by omega) | exact v_bool (by simp [*])) (cov_cons (by first | rfl | exact v_int (by omega) | exact v_bool (by simp [*])) (cov_nil)))
                                      · repeat (first | exact over_nil | refine over_put rfl ?_ | refine over_drop rfl ?_)
                                      · exact fun w h => h.pick [1, 2, 3, 4, 5, 6, 7, 8, 9, 10, 11, 12] _ rfl (by decide)
                                      · exact ⟨by omega, by omega⟩
                                  · try (first | (exfalso; omega) | (have hk2 : k = 0 ∨ k = 1 := (by omega); rcases hk2 with rfl | rfl))
                                    all_goals
                                      refine tr_exit ?_
                                      refine tx_then_exit ?_
                                      refine tx_then_exit ?_
                                      refine tx_in_exit ?_
                                      refine tx_then ?_
                                      refine tr_seq ?_
                                      obtain ⟨hF', hS'⟩ : F' = F + x ∧ S' = S + y := by omega
                                      subst hF' hS'
                                      clear hp hx hy hN
                                      refine tr_region ?_
                                      refine tl_step rfl (oj_val (y_fieldAddr (td := 3) Try.underlying25 rfl rfl Try.sizeOf3 (o' := 0) rfl (fe_t rfl)) ?_)
                                      refine tl_step rfl (oj_val (y_ldb 10 Try.isAgg3 (fe_t rfl) rfl rfl) ?_)
                                      refine tl_step rfl (oj_val (y_fieldAddr (td := 3) Try.underlying23 rfl rfl Try.sizeOf3 (o' := 5) rfl (fe_t rfl)) ?_)
                                      refine tl_step rfl (oj_store1 11 Try.sizeOf3 (fe_t rfl) (fe_t rfl) rfl rfl rfl rfl (?_))
                                      refine tl_nil ?_
                                      refine tx_then ?_
                                      refine tr_seq ?_
                                      refine tr_seq ?_
                                      refine tr_region ?_
                                      refine tl_step rfl (oj_val (y_move (fe_t rfl)) ?_)
                                      refine tl_step rfl (oj_val (y_eq (fe_t rfl) fe_c) ?_)
                                      refine tl_step rfl (oj_val (y_move (fe_t rfl)) ?_)
                                      refine tl_splitp (d := 103) rfl (fun hq77 => ?_) (fun hq78 => ?_)
                                      · try (first | (exfalso; omega) | (have hk2 : k = 0 ∨ k = 1 := (by omega); rcases hk2 with rfl | rfl))
                                        all_goals
                                          refine tl_want rfl rfl rfl (oj_val (y_fieldAddr (td := 3) Try.underlying23 rfl rfl Try.sizeOf3 (o' := 3) rfl (fe_t rfl)) ?_)
                                          refine tl_want rfl rfl rfl (oj_val (y_ldb 11 Try.isAgg3 (fe_t rfl) rfl rfl) ?_)
                                          refine tl_want rfl rfl rfl (oj_val (y_fieldAddr (td := 3) Try.underlying25 rfl rfl Try.sizeOf3 (o' := 1) rfl (fe_t rfl)) ?_)
                                          refine tl_want rfl rfl rfl (oj_val (y_ldb 10 Try.isAgg3 (fe_t rfl) rfl rfl) ?_)
                                          refine tl_want rfl rfl rfl (oj_val (y_geq (fe_t rfl) (fe_t rfl)) ?_)
                                          refine tl_step rfl (oj_val (y_pickt (fe_t rfl) (fe_t rfl)) ?_)
                                          refine tl_nil ?_
                                          refine tx_then ?_
                                          refine tr_condp (fe_t rfl) (fun hq79 => ?_) (fun hq80 => ?_)
                                          · try (first | (exfalso; omega) | (have hk2 : k = 0 ∨ k = 1 := (by omega); rcases hk2 with rfl | rfl))
                                            all_goals
                                              refine tr_seq ?_
                                              refine tr_region ?_
                                              refine tl_step rfl (oj_val (y_fieldAddr (td := 3) Try.underlying23 rfl rfl Try.sizeOf3 (o' := 3) rfl (fe_t rfl)) ?_)
                                              refine tl_step rfl (oj_val (y_ldb 11 Try.isAgg3 (fe_t rfl) rfl rfl) ?_)
                                              refine tl_step rfl (oj_val (y_fieldAddr (td := 3) Try.underlying25 rfl rfl Try.sizeOf3 (o' := 1) rfl (fe_t rfl)) ?_)
                                              refine tl_step rfl (oj_val (y_ldb 10 Try.isAgg3 (fe_t rfl) rfl rfl) ?_)
                                              refine tl_step rfl (oj_val (y_sub (fe_t rfl) (fe_t rfl) (by omega)) ?_)
                                              refine tl_step rfl (oj_val (y_fieldAddr (td := 3) Try.underlying23 rfl rfl Try.sizeOf3 (o' := 3) rfl (fe_t rfl)) ?_)
                                              refine tl_step rfl (oj_store1 11 Try.sizeOf3 (fe_t rfl) (fe_t rfl) rfl rfl rfl rfl (?_))
                                              refine tl_nil ?_
                                              refine tx_then ?_
                                              refine tr_seq ?_
                                              refine tr_region ?_
                                              refine tl_step rfl (oj_val (y_ldbA 11 Try.isAgg23 Try.sizeOf23 (fe_t rfl) rfl rfl rfl) ?_)
                                              refine tl_step rfl (oj_storeW 9 Try.sizeOf23 (fe_t rfl) (fe_t rfl) rfl rfl rfl rfl rfl (?_))
                                              refine tl_step rfl (oj_val (y_assign fe_c) ?_)
                                              refine tl_step rfl (oj_val (y_assign fe_c) ?_)
                                              refine tl_nil ?_
                                              refine tx_then ?_
                                              refine tr_ret ?_
                                              refine tx_then_ret ?_
                                              refine tx_ret (res3 Try.results16 (rok_b 9 Try.isAgg23 Try.sizeOf23 rfl rfl rfl) (rok_t rfl) (rok_t rfl)) (fun w' hS => ?_)
                                              refine ⟨?_, hS.pick [] _ rfl (by decide)⟩
                                              rcases Hcs.out with ⟨h1, h2, h3⟩ | ⟨h1, h2, h3, h4⟩ | ⟨h1, h2, h3⟩ | ⟨h1, h2, h3, h4⟩ | ⟨h1, h2, h3⟩ | ⟨h1, h2⟩
                                              all_goals first | (exfalso; omega) | (subst h3; rfl) | (subst h4; rfl) | (subst h2; rfl)
                                          · try (first | (exfalso; omega) | (have hk2 : k = 0 ∨ k = 1 := (by omega); rcases hk2 with rfl | rfl))
                                            all_goals
                                              refine tr_skip ?_
                                              refine tx_then ?_
                                              refine tr_seq ?_
                                              refine tr_seq ?_
                                              refine tr_region ?_
                                              refine tl_step rfl (oj_val (y_move (fe_t rfl)) ?_)
                                              refine tl_step rfl (oj_val (y_lss (fe_t rfl) fe_c) ?_)
                                              refine tl_step rfl (oj_val (y_move (fe_t rfl)) ?_)
                                              refine tl_splitp (d := 119) rfl (fun hq81 => ?_) (fun hq82 => ?_)
                                              · try (first | (exfalso; omega) | (have hk2 : k = 0 ∨ k = 1 := (by omega); rcases hk2 with rfl | rfl))
                                                all_goals
                                                  refine tl_want rfl rfl rfl (oj_val (y_fieldAddr (td := 3) Try.underlying23 rfl rfl Try.sizeOf3 (o' := 4) rfl (fe_t rfl)) ?_)
                                                  refine tl_want rfl rfl rfl (oj_val (y_ldb 11 Try.isAgg3 (fe_t rfl) rfl rfl) ?_)
                                                  refine tl_want rfl rfl rfl (oj_val (y_fieldAddr (td := 3) Try.underlying25 rfl rfl Try.sizeOf3 (o' := 1) rfl (fe_t rfl)) ?_)
                                                  refine tl_want rfl rfl rfl (oj_val (y_ldb 10 Try.isAgg3 (fe_t rfl) rfl rfl) ?_)
                                                  refine tl_want rfl rfl rfl (oj_val (y_geq (fe_t rfl) (fe_t rfl)) ?_)
                                                  refine tl_step rfl (oj_val (y_pickt (fe_t rfl) (fe_t rfl)) ?_)
                                                  refine tl_nil ?_
                                                  refine tx_then ?_
                                                  refine tr_condp (fe_t rfl) (fun hq83 => ?_) (fun hq84 => ?_)
                                                  · try (first | (exfalso; omega) | (have hk2 : k = 0 ∨ k = 1 := (by omega); rcases hk2 with rfl | rfl))
                                                    all_goals
                                                      refine tr_seq ?_
                                                      refine tr_region ?_
                                                      refine tl_step rfl (oj_val (y_fieldAddr (td := 3) Try.underlying23 rfl rfl Try.sizeOf3 (o' := 4) rfl (fe_t rfl)) ?_)
                                                      refine tl_step rfl (oj_val (y_ldb 11 Try.isAgg3 (fe_t rfl) rfl rfl) ?_)
                                                      refine tl_step rfl (oj_val (y_fieldAddr (td := 3) Try.underlying25 rfl rfl Try.sizeOf3 (o' := 1) rfl (fe_t rfl)) ?_)
                                                      refine tl_step rfl (oj_val (y_ldb 10 Try.isAgg3 (fe_t rfl) rfl rfl) ?_)
                                                      refine tl_step rfl (oj_val (y_sub (fe_t rfl) (fe_t rfl) (by omega)) ?_)
                                                      refine tl_step rfl (oj_val (y_fieldAddr (td := 3) Try.underlying23 rfl rfl Try.sizeOf3 (o' := 4) rfl (fe_t rfl)) ?_)
                                                      refine tl_step rfl (oj_store1 11 Try.sizeOf3 (fe_t rfl) (fe_t rfl) rfl rfl rfl rfl (?_))
                                                      refine tl_nil ?_
                                                      refine tx_then ?_
                                                      refine tr_seq ?_
                                                      refine tr_region ?_
                                                      refine tl_step rfl (oj_val (y_ldbA 11 Try.isAgg23 Try.sizeOf23 (fe_t rfl) rfl rfl rfl) ?_)
                                                      refine tl_step rfl (oj_storeW 9 Try.sizeOf23 (fe_t rfl) (fe_t rfl) rfl rfl rfl rfl rfl (?_))
                                                      refine tl_step rfl (oj_val (y_assign fe_c) ?_)
                                                      refine tl_step rfl (oj_val (y_assign fe_c) ?_)
                                                      refine tl_nil ?_
                                                      refine tx_then ?_
                                                      refine tr_ret ?_
                                                      refine tx_then_ret ?_
                                                      refine tx_ret (res3 Try.results16 (rok_b 9 Try.isAgg23 Try.sizeOf23 rfl rfl rfl) (rok_t rfl) (rok_t rfl)) (fun w' hS => ?_)
                                                      refine ⟨?_, hS.pick [] _ rfl (by decide)⟩
                                                      rcases Hcs.out with ⟨h1, h2, h3⟩ | ⟨h1, h2, h3, h4⟩ | ⟨h1, h2, h3⟩ | ⟨h1, h2, h3, h4⟩ | ⟨h1, h2, h3⟩ | ⟨h1, h2⟩
                                                      all_goals first | (exfalso; omega) | (subst h3; rfl) | (subst h4; rfl) | (subst h2; rfl)
                                                  · try (first | (exfalso; omega) | (have hk2 : k = 0 ∨ k = 1 := (by omega); rcases hk2 with rfl | rfl))
                                                    all_goals
                                                      refine tr_skip ?_
                                                      refine tx_then ?_
                                                      refine tr_seq ?_
                                                      refine tr_region ?_
                                                      refine tl_step rfl (oj_val (y_ldbA 11 Try.isAgg23 Try.sizeOf23 (fe_t rfl) rfl rfl rfl) ?_)
                                                      refine tl_step rfl (oj_storeW 9 Try.sizeOf23 (fe_t rfl) (fe_t rfl) rfl rfl rfl rfl rfl (?_))
                                                      refine tl_step rfl (oj_val (y_assign fe_c) ?_)
                                                      refine tl_step rfl (oj_val (y_assign fe_c) ?_)
                                                      refine tl_nil ?_
                                                      refine tx_then ?_
                                                      refine tr_ret ?_
                                                      refine tx_ret (res3 Try.results16 (rok_b 9 Try.isAgg23 Try.sizeOf23 rfl rfl rfl) (rok_t rfl) (rok_t rfl)) (fun w' hS => ?_)
                                                      refine ⟨?_, hS.pick [] _ rfl (by decide)⟩
                                                      rcases Hcs.out with ⟨h1, h2, h3⟩ | ⟨h1, h2, h3, h4⟩ | ⟨h1, h2, h3⟩ | ⟨h1, h2, h3, h4⟩ | ⟨h1, h2, h3⟩ | ⟨h1, h2⟩
                                                      all_goals first | (exfalso; omega) | (subst h3; rfl) | (subst h4; rfl) | (subst h2; rfl)
                                              · try (first | (exfalso; omega) | (have hk2 : k = 0 ∨ k = 1 := (by omega); rcases hk2 with rfl | rfl))
                                                all_goals
                                                  refine tl_skip rfl rfl rfl rfl ?_
                                                  refine tl_skip rfl rfl rfl rfl ?_
                                                  refine tl_skip rfl rfl rfl rfl ?_
                                                  refine tl_skip rfl rfl rfl rfl ?_
                                                  refine tl_skip rfl rfl rfl rfl ?_
                                                  refine tl_step rfl (oj_val (y_pickf (fe_t rfl) fe_c) ?_)
                                                  refine tl_nil ?_
                                                  refine tx_then ?_
                                                  refine tr_condf (fe_t rfl) ?_
                                                  refine tr_skip ?_
                                                  refine tx_then ?_
                                                  refine tr_seq ?_
                                                  refine tr_region ?_
                                                  refine tl_step rfl (oj_val (y_ldbA 11 Try.isAgg23 Try.sizeOf23 (fe_t rfl) rfl rfl rfl) ?_)
                                                  refine tl_step rfl (oj_storeW 9 Try.sizeOf23 (fe_t rfl) (fe_t rfl) rfl rfl rfl rfl rfl (?_))
                                                  refine tl_step rfl (oj_val (y_assign fe_c) ?_)
                                                  refine tl_step rfl (oj_val (y_assign fe_c) ?_)
                                                  refine tl_nil ?_
                                                  refine tx_then ?_
                                                  refine tr_ret ?_
                                                  refine tx_ret (res3 Try.results16 (rok_b 9 Try.isAgg23 Try.sizeOf23 rfl rfl rfl) (rok_t rfl) (rok_t rfl)) (fun w' hS => ?_)
                                                  refine ⟨?_, hS.pick [] _ rfl (by decide)⟩
                                                  rcases Hcs.out with ⟨h1, h2, h3⟩ | ⟨h1, h2, h3, h4⟩ | ⟨h1, h2, h3⟩ | ⟨h1, h2, h3, h4⟩ | ⟨h1, h2, h3⟩ | ⟨h1, h2⟩
                                                  all_goals first | (exfalso; omega) | (subst h3; rfl) | (subst h4; rfl) | (subst h2; rfl)
                                      · try (first | (exfalso; omega) | (have hk2 : k = 0 ∨ k = 1 := (by omega); rcases hk2 with rfl | rfl))
                                        all_goals
                                          refine tl_skip rfl rfl rfl rfl ?_
                                          refine tl_skip rfl rfl rfl rfl ?_
                                          refine tl_skip rfl rfl rfl rfl ?_
                                          refine tl_skip rfl rfl rfl rfl ?_
                                          refine tl_skip rfl rfl rfl rfl ?_
                                          refine tl_step rfl (oj_val (y_pickf (fe_t rfl) fe_c) ?_)
                                          refine tl_nil ?_
                                          refine tx_then ?_
                                          refine tr_condf (fe_t rfl) ?_
                                          refine tr_skip ?_
                                          refine tx_then ?_
                                          refine tr_seq ?_
                                          refine tr_seq ?_
                                          refine tr_region ?_
                                          refine tl_step rfl (oj_val (y_move (fe_t rfl)) ?_)
                                          refine tl_step rfl (oj_val (y_lss (fe_t rfl) fe_c) ?_)
                                          refine tl_step rfl (oj_val (y_move (fe_t rfl)) ?_)
                                          refine tl_splitp (d := 119) rfl (fun hq85 => ?_) (fun hq86 => ?_)
                                          · try (first | (exfalso; omega) | (have hk2 : k = 0 ∨ k = 1 := (by omega); rcases hk2 with rfl | rfl))
                                            all_goals
                                              refine tl_want rfl rfl rfl (oj_val (y_fieldAddr (td := 3) Try.underlying23 rfl rfl Try.sizeOf3 (o' := 4) rfl (fe_t rfl)) ?_)
                                              refine tl_want rfl rfl rfl (oj_val (y_ldb 11 Try.isAgg3 (fe_t rfl) rfl rfl) ?_)
                                              refine tl_want rfl rfl rfl (oj_val (y_fieldAddr (td := 3) Try.underlying25 rfl rfl Try.sizeOf3 (o' := 1) rfl (fe_t rfl)) ?_)
                                              refine tl_want rfl rfl rfl (oj_val (y_ldb 10 Try.isAgg3 (fe_t rfl) rfl rfl) ?_)
                                              refine tl_want rfl rfl rfl (oj_val (y_geq (fe_t rfl) (fe_t rfl)) ?_)
                                              refine tl_step rfl (oj_val (y_pickt (fe_t rfl) (fe_t rfl)) ?_)
                                              refine tl_nil ?_
                                              refine tx_then ?_
                                              refine tr_condp (fe_t rfl) (fun hq87 => ?_) (fun hq88 => ?_)
                                              · try (first | (exfalso; omega) | (have hk2 : k = 0 ∨ k = 1 := (by omega); rcases hk2 with rfl | rfl))
                                                all_goals
                                                  refine tr_seq ?_
                                                  refine tr_region ?_
                                                  refine tl_step rfl (oj_val (y_fieldAddr (td := 3) Try.underlying23 rfl rfl Try.sizeOf3 (o' := 4) rfl (fe_t rfl)) ?_)
                                                  refine tl_step rfl (oj_val (y_ldb 11 Try.isAgg3 (fe_t rfl) rfl rfl) ?_)
                                                  refine tl_step rfl (oj_val (y_fieldAddr (td := 3) Try.underlying25 rfl rfl Try.sizeOf3 (o' := 1) rfl (fe_t rfl)) ?_)
                                                  refine tl_step rfl (oj_val (y_ldb 10 Try.isAgg3 (fe_t rfl) rfl rfl) ?_)
                                                  refine tl_step rfl (oj_val (y_sub (fe_t rfl) (fe_t rfl) (by omega)) ?_)
                                                  refine tl_step rfl (oj_val (y_fieldAddr (td := 3) Try.underlying23 rfl rfl Try.sizeOf3 (o' := 4) rfl (fe_t rfl)) ?_)
                                                  refine tl_step rfl (oj_store1 11 Try.sizeOf3 (fe_t rfl) (fe_t rfl) rfl rfl rfl rfl (?_))
                                                  refine tl_nil ?_
                                                  refine tx_then ?_
                                                  refine tr_seq ?_
                                                  refine tr_region ?_
                                                  refine tl_step rfl (oj_val (y_ldbA 11 Try.isAgg23 Try.sizeOf23 (fe_t rfl) rfl rfl rfl) ?_)
                                                  refine tl_step rfl (oj_storeW 9 Try.sizeOf23 (fe_t rfl) (fe_t rfl) rfl rfl rfl rfl rfl (?_))
                                                  refine tl_step rfl (oj_val (y_assign fe_c) ?_)
                                                  refine tl_step rfl (oj_val (y_assign fe_c) ?_)
                                                  refine tl_nil ?_
                                                  refine tx_then ?_
                                                  refine tr_ret ?_
                                                  refine tx_then_ret ?_
                                                  refine tx_ret (res3 Try.results16 (rok_b 9 Try.isAgg23 Try.sizeOf23 rfl rfl rfl) (rok_t rfl) (rok_t rfl)) (fun w' hS => ?_)
                                                  refine ⟨?_, hS.pick [] _ rfl (by decide)⟩
                                                  rcases Hcs.out with ⟨h1, h2, h3⟩ | ⟨h1, h2, h3, h4⟩ | ⟨h1, h2, h3⟩ | ⟨h1, h2, h3, h4⟩ | ⟨h1, h2, h3⟩ | ⟨h1, h2⟩
                                                  all_goals first | (exfalso; omega) | (subst h3; rfl) | (subst h4; rfl) | (subst h2; rfl)
                                              · try (first | (exfalso; omega) | (have hk2 : k = 0 ∨ k = 1 := (by omega); rcases hk2 with rfl | rfl))
                                                all_goals
                                                  refine tr_skip ?_
                                                  refine tx_then ?_
                                                  refine tr_seq ?_
                                                  refine tr_region ?_
                                                  refine tl_step rfl (oj_val (y_ldbA 11 Try.isAgg23 Try.sizeOf23 (fe_t rfl) rfl rfl rfl) ?_)
                                                  refine tl_step rfl (oj_storeW 9 Try.sizeOf23 (fe_t rfl) (fe_t rfl) rfl rfl rfl rfl rfl (?_))
                                                  refine tl_step rfl (oj_val (y_assign fe_c) ?_)
                                                  refine tl_step rfl (oj_val (y_assign fe_c) ?_)
                                                  refine tl_nil ?_
                                                  refine tx_then ?_
                                                  refine tr_ret ?_
                                                  refine tx_ret (res3 Try.results16 (rok_b 9 Try.isAgg23 Try.sizeOf23 rfl rfl rfl) (rok_t rfl) (rok_t rfl)) (fun w' hS => ?_)
                                                  refine ⟨?_, hS.pick [] _ rfl (by decide)⟩
                                                  rcases Hcs.out with ⟨h1, h2, h3⟩ | ⟨h1, h2, h3, h4⟩ | ⟨h1, h2, h3⟩ | ⟨h1, h2, h3, h4⟩ | ⟨h1, h2, h3⟩ | ⟨h1, h2⟩
                                                  all_goals first | (exfalso; omega) | (subst h3; rfl) | (subst h4; rfl) | (subst h2; rfl)
                                          · try (first | (exfalso; omega) | (have hk2 : k = 0 ∨ k = 1 := (by omega); rcases hk2 with rfl | rfl))
                                            all_goals
                                              refine tl_skip rfl rfl rfl rfl ?_
                                              refine tl_skip rfl rfl rfl rfl ?_
                                              refine tl_skip rfl rfl rfl rfl ?_
                                              refine tl_skip rfl rfl rfl rfl ?_
                                              refine tl_skip rfl rfl rfl rfl ?_
                                              refine tl_step rfl (oj_val (y_pickf (fe_t rfl) fe_c) ?_)
                                              refine tl_nil ?_
                                              refine tx_then ?_
                                              refine tr_condf (fe_t rfl) ?_
                                              refine tr_skip ?_
                                              refine tx_then ?_
                                              refine tr_seq ?_
                                              refine tr_region ?_
                                              refine tl_step rfl (oj_val (y_ldbA 11 Try.isAgg23 Try.sizeOf23 (fe_t rfl) rfl rfl rfl) ?_)
                                              refine tl_step rfl (oj_storeW 9 Try.sizeOf23 (fe_t rfl) (fe_t rfl) rfl rfl rfl rfl rfl (?_))
                                              refine tl_step rfl (oj_val (y_assign fe_c) ?_)
                                              refine tl_step rfl (oj_val (y_assign fe_c) ?_)
                                              refine tl_nil ?_
                                              refine tx_then ?_
                                              refine tr_ret ?_
                                              refine tx_ret (res3 Try.results16 (rok_b 9 Try.isAgg23 Try.sizeOf23 rfl rfl rfl) (rok_t rfl) (rok_t rfl)) (fun w' hS => ?_)
                                              refine ⟨?_, hS.pick [] _ rfl (by decide)⟩
                                              rcases Hcs.out with ⟨h1, h2, h3⟩ | ⟨h1, h2, h3, h4⟩ | ⟨h1, h2, h3⟩ | ⟨h1, h2, h3, h4⟩ | ⟨h1, h2, h3⟩ | ⟨h1, h2⟩
                                              all_goals first | (exfalso; omega) | (subst h3; rfl) | (subst h4; rfl) | (subst h2; rfl)
                              · try (first | (exfalso; omega) | (have hk2 : k = 0 ∨ k = 1 := (by omega); rcases hk2 with rfl | rfl))
                                all_goals
                                  have hlt := cmp_ge hq74
                                  refine tr_skip ?_
                                  refine tx_then ?_
                                  refine tr_seq ?_
                                  refine tr_seq ?_
                                  refine tr_region ?_
                                  refine tl_step rfl (oj_val (y_fieldAddr (td := 3) Try.underlying23 rfl rfl Try.sizeOf3 (o' := 3) rfl (fe_t rfl)) ?_)
                                  refine tl_step rfl (oj_val (y_fieldAddr (td := 3) Try.underlying23 rfl rfl Try.sizeOf3 (o' := 1) rfl (fe_t rfl)) ?_)
                                  refine tl_step rfl (oj_val (y_ldb 10 Try.isAgg3 (fe_t rfl) rfl rfl) ?_)
                                  refine tl_step rfl (oj_val ((fun {u0 u1} hx hb => y_build (is := [0, 1]) (vs := [u0, u1]) (cs := [u0, u1]) rfl hx hb) (fel_cons (fe_t rfl) (fel_cons (fe_t rfl) fel_nil)) (by kernel_rfl)) ?_)
                                  refine tl_step rfl (oj_val (y_fieldAddr (td := 3) Try.underlying23 rfl rfl Try.sizeOf3 (o' := 4) rfl (fe_t rfl)) ?_)
                                  refine tl_step rfl (oj_val (y_fieldAddr (td := 3) Try.underlying23 rfl rfl Try.sizeOf3 (o' := 2) rfl (fe_t rfl)) ?_)
                                  refine tl_step rfl (oj_val (y_ldb 10 Try.isAgg3 (fe_t rfl) rfl rfl) ?_)
                                  refine tl_step rfl (oj_val ((fun {u0 u1} hx hb => y_build (is := [0, 1]) (vs := [u0, u1]) (cs := [u0, u1]) rfl hx hb) (fel_cons (fe_t rfl) (fel_cons (fe_t rfl) fel_nil)) (by kernel_rfl)) ?_)
                                  refine tl_step rfl (oj_litA2 Try.underlying137 Try.sizeOf136 Try.zeroValue136 (fe_t rfl) (fe_t rfl) (fun gl => ?_))
                                  refine tl_step rfl (oj_val (y_len Try.underlying137 (fe_t rfl)) ?_)
                                  refine tl_step rfl (oj_val (y_move fe_c) ?_)
                                  refine tl_nil ?_
                                  refine tx_then ?_
                                  refine tr_block ?_
                                  refine tr_loop4 [10, 12, 13, 74, 75, 76, 77, 78, 79, 80, 81, 82, 83, 84, 85, 86, 87, 88, 89, 90, 91, 92, 93, 94, 95, 96, 97] (fun (k : Nat) (g : Int) (F' : Int) (S' : Int) => [(74, .int .i64 (k : Int)), (10, .int .i64 g)]) 0 (fun (k : Nat) (g : Int) (F' : Int) (S' : Int) => [(11, blk m [(.int .i64 C), (.int .i64 B), (.int .i64 E), (.int .i64 F'), (.int .i64 S'), (.int .i64 T)])]) (fun (k : Nat) (g : Int) (F' : Int) (S' : Int) => (k = 0 ∧ g = n0 ∧ F' = F ∧ S' = S) ∨ (k = 1 ∧ g = n0 - x ∧ F' = F + x ∧ S' = S) ∨ (k = 2 ∧ g = n0 - x - y ∧ F' = F + x ∧ S' = S + y)) (fun (k : Nat) (g : Int) (F' : Int) (S' : Int) => 2 - k) (0) (n0) (F) (S) (cov_cons (by first | rfl | exact v_int (by omega) | exact v_bool (by simp [*])) (cov_cons (by first | rfl | exact v_int (by omega) | exact v_bool (by simp [*])) (cov_nil))) (fun w h => h) ?_ ?_
                                  · try dsimp only
                                    exact .inl ⟨rfl, rfl, rfl, rfl⟩
                                  intro k g F' S' hp
                                  refine tr_seq ?_
                                  refine tr_region ?_
                                  refine tl_step rfl (oj_val (y_lss (fe_t rfl) (fe_t rfl)) ?_)
                                  refine tl_nil ?_
                                  refine tx_then ?_
                                  refine tr_seq ?_
                                  refine tr_condp (fe_t rfl) (fun hq89 => ?_) (fun hq90 => ?_)
                                  · try (first | (exfalso; omega) | (have hk2 : k = 0 ∨ k = 1 := (by omega); rcases hk2 with rfl | rfl))
                                    all_goals
                                      refine tr_skip ?_
                                      refine tx_then ?_
                                      refine tr_seq ?_
                                      refine tr_block ?_
                                      refine tr_seq ?_
                                      refine tr_region ?_
                                      refine tl_step rfl (oj_val (y_index Try.underlying137 Try.sizeOf136 (fe_t rfl) (fe_t rfl) (rdl_vec 0 rfl) (rfl) (by decide) (by omega) rfl) ?_)
                                      refine tl_step rfl (oj_val (y_ldL Try.isAgg136 Try.sizeOf136 (fe_t rfl) (rdl_vec 0 rfl) rfl (by decide)) ?_)
                                      refine tl_step rfl (oj_alloc Try.zeroValue136 (fun lb => ?_))
                                      refine tl_step rfl (oj_storeW 0 Try.sizeOf136 (fe_t rfl) (fe_t rfl) rfl rfl rfl rfl rfl (?_))
                                      refine tl_nil ?_
                                      refine tx_then ?_
                                      refine tr_seq ?_
                                      refine tr_draw (sel _ [0, 1, 2, 3, 4, 5, 6, 7, 8, 9, 10, 11, 12]) (fun w h => h.sel _ rfl (by decide)) rfl ?_
                                      refine ta_float (i := 0) rfl (by kernel_rfl) (wants_none rfl) (yq_of (y_move (fe_t rfl))) ?_
                                      refine ta_float (i := 1) rfl (by kernel_rfl) (wants_none rfl) (yq_of (y_fieldAddr (td := 3) Try.underlying136 rfl rfl Try.sizeOf3 (o' := 1) rfl (fe_t rfl))) ?_
                                      refine ta_float (i := 2) rfl (by kernel_rfl) (wants_none rfl) (yq_of (y_ldb 0 Try.isAgg3 (fe_t rfl) rfl rfl)) ?_
                                      refine ta_float (i := 3) rfl (by kernel_rfl) (wants_none rfl) (yq_of (y_fieldAddr (td := 135) Try.underlying136 rfl rfl Try.sizeOf135 (o' := 0) rfl (fe_t rfl))) ?_
                                      refine ta_float (i := 4) rfl (by kernel_rfl) (wants_none rfl) (yq_of (y_ldb 0 Try.isAgg135 (fe_t rfl) rfl rfl)) ?_
                                      refine ta_float (i := 5) rfl (by kernel_rfl) (wants_none rfl) (yq_of (y_nilCheck (fe_t rfl))) ?_
                                      refine ta_float (i := 6) rfl (by kernel_rfl) (wants_none rfl) (yq_of (y_ldb 12 Try.isAgg3 (fe_t rfl) rfl rfl)) ?_
                                      refine ta_float (i := 7) rfl (by kernel_rfl) (wants_none rfl) (yq_of (y_sub (fe_t rfl) (fe_t rfl) (by omega))) ?_
                                      refine ta_float (i := 8) rfl (by kernel_rfl) (wants_none rfl) (yq_of (y_min (fe_t rfl) (fe_t rfl))) ?_
                                      refine ta_float (i := 9) rfl (by kernel_rfl) (wants_none rfl) (yq_of (y_assign (fe_t rfl))) ?_
                                      refine ta_done (by kernel_rfl) ?_
                                      refine tx_then ?_
                                      refine tr_seq ?_
                                      refine tr_region ?_
                                      refine tl_step rfl (oj_val (y_fieldAddr (td := 135) Try.underlying136 rfl rfl Try.sizeOf135 (o' := 0) rfl (fe_t rfl)) ?_)
                                      refine tl_step rfl (oj_val (y_ldb 0 Try.isAgg135 (fe_t rfl) rfl rfl) ?_)
                                      refine tl_step rfl (oj_val (y_nilCheck (fe_t rfl)) ?_)
                                      refine tl_step rfl (oj_val (y_ldb 12 Try.isAgg3 (fe_t rfl) rfl rfl) ?_)
                                      refine tl_step rfl (oj_val (y_move (fe_t rfl)) ?_)
                                      refine tl_step rfl (oj_val (y_add (fe_t rfl) (fe_t rfl) (by omega)) ?_)
                                      refine tl_step rfl (oj_val (y_nilCheck (fe_t rfl)) ?_)
                                      refine tl_step rfl (oj_store1 12 Try.sizeOf3 (fe_t rfl) (fe_t rfl) rfl rfl rfl rfl (?_))
                                      refine tl_nil ?_
                                      refine tx_then ?_
                                      refine tr_region ?_
                                      refine tl_step rfl (oj_val (y_move (fe_t rfl)) ?_)
                                      refine tl_step rfl (oj_val (y_move (fe_t rfl)) ?_)
                                      refine tl_step rfl (oj_val (y_sub (fe_t rfl) (fe_t rfl) (by omega)) ?_)
                                      refine tl_step rfl (oj_val (y_assign (fe_t rfl)) ?_)
                                      refine tl_nil ?_
                                      refine tx_in ?_
                                      refine tx_then ?_
                                      refine tr_region ?_
                                      refine tl_step rfl (oj_val (y_inc (fe_t rfl) fe_c (by omega)) ?_)
                                      refine tl_step rfl (oj_val (y_move (fe_t rfl)) ?_)
                                      refine tl_nil ?_
                                      apply tx_back4 (_) (_) (_) (_)
                                      · exact (cov_cons (by first | rfl | exact v_int (by omega) | exact v_bool (by simp [*])) (cov_cons (by first | rfl | exact v_int (by omega) | exact v_bool (by simp [*])) (cov_nil)))
                                      · repeat (first | exact over_nil | refine over_put rfl ?_ | refine over_drop rfl ?_)
                                      · exact fun w h => h.pick [1, 2, 3, 4, 5, 6, 7, 8, 9, 10, 11, 12] _ rfl (by decide)
                                      · exact ⟨by omega, by omega⟩
                                  · try (first | (exfalso; omega) | (have hk2 : k = 0 ∨ k = 1 := (by omega); rcases hk2 with rfl | rfl))
                                    all_goals
                                      refine tr_exit ?_
                                      refine tx_then_exit ?_
                                      refine tx_then_exit ?_
                                      refine tx_in_exit ?_
                                      refine tx_then ?_
                                      refine tr_seq ?_
                                      obtain ⟨hF', hS'⟩ : F' = F + x ∧ S' = S + y := by omega
                                      subst hF' hS'
                                      clear hp hx hy hN
                                      refine tr_region ?_
                                      refine tl_step rfl (oj_val (y_fieldAddr (td := 3) Try.underlying25 rfl rfl Try.sizeOf3 (o' := 0) rfl (fe_t rfl)) ?_)
                                      refine tl_step rfl (oj_val (y_ldb 10 Try.isAgg3 (fe_t rfl) rfl rfl) ?_)
                                      refine tl_step rfl (oj_val (y_fieldAddr (td := 3) Try.underlying23 rfl rfl Try.sizeOf3 (o' := 5) rfl (fe_t rfl)) ?_)
                                      refine tl_step rfl (oj_store1 11 Try.sizeOf3 (fe_t rfl) (fe_t rfl) rfl rfl rfl rfl (?_))
                                      refine tl_nil ?_
                                      refine tx_then ?_
                                      refine tr_seq ?_
                                      refine tr_seq ?_
                                      refine tr_region ?_
                                      refine tl_step rfl (oj_val (y_move (fe_t rfl)) ?_)
                                      refine tl_step rfl (oj_val (y_eq (fe_t rfl) fe_c) ?_)
                                      refine tl_step rfl (oj_val (y_move (fe_t rfl)) ?_)
                                      refine tl_splitp (d := 103) rfl (fun hq91 => ?_) (fun hq92 => ?_)
                                      · try (first | (exfalso; omega) | (have hk2 : k = 0 ∨ k = 1 := (by omega); rcases hk2 with rfl | rfl))
                                        all_goals
                                          refine tl_want rfl rfl rfl (oj_val (y_fieldAddr (td := 3) Try.underlying23 rfl rfl Try.sizeOf3 (o' := 3) rfl (fe_t rfl)) ?_)
                                          refine tl_want rfl rfl rfl (oj_val (y_ldb 11 Try.isAgg3 (fe_t rfl) rfl rfl) ?_)
                                          refine tl_want rfl rfl rfl (oj_val (y_fieldAddr (td := 3) Try.underlying25 rfl rfl Try.sizeOf3 (o' := 1) rfl (fe_t rfl)) ?_)
                                          refine tl_want rfl rfl rfl (oj_val (y_ldb 10 Try.isAgg3 (fe_t rfl) rfl rfl) ?_)
                                          refine tl_want rfl rfl rfl (oj_val (y_geq (fe_t rfl) (fe_t rfl)) ?_)
                                          refine tl_step rfl (oj_val (y_pickt (fe_t rfl) (fe_t rfl)) ?_)
                                          refine tl_nil ?_
                                          refine tx_then ?_
                                          refine tr_condp (fe_t rfl) (fun hq93 => ?_) (fun hq94 => ?_)
                                          · try (first | (exfalso; omega) | (have hk2 : k = 0 ∨ k = 1 := (by omega); rcases hk2 with rfl | rfl))
                                            all_goals
                                              refine tr_seq ?_
                                              refine tr_region ?_
                                              refine tl_step rfl (oj_val (y_fieldAddr (td := 3) Try.underlying23 rfl rfl Try.sizeOf3 (o' := 3) rfl (fe_t rfl)) ?_)
                                              refine tl_step rfl (oj_val (y_ldb 11 Try.isAgg3 (fe_t rfl) rfl rfl) ?_)
                                              refine tl_step rfl (oj_val (y_fieldAddr (td := 3) Try.underlying25 rfl rfl Try.sizeOf3 (o' := 1) rfl (fe_t rfl)) ?_)
                                              refine tl_step rfl (oj_val (y_ldb 10 Try.isAgg3 (fe_t rfl) rfl rfl) ?_)
                                              refine tl_step rfl (oj_val (y_sub (fe_t rfl) (fe_t rfl) (by omega)) ?_)
                                              refine tl_step rfl (oj_val (y_fieldAddr (td := 3) Try.underlying23 rfl rfl Try.sizeOf3 (o' := 3) rfl (fe_t rfl)) ?_)
                                              refine tl_step rfl (oj_store1 11 Try.sizeOf3 (fe_t rfl) (fe_t rfl) rfl rfl rfl rfl (?_))
                                              refine tl_nil ?_
                                              refine tx_then ?_
                                              refine tr_seq ?_
                                              refine tr_region ?_
                                              refine tl_step rfl (oj_val (y_ldbA 11 Try.isAgg23 Try.sizeOf23 (fe_t rfl) rfl rfl rfl) ?_)
                                              refine tl_step rfl (oj_storeW 9 Try.sizeOf23 (fe_t rfl) (fe_t rfl) rfl rfl rfl rfl rfl (?_))
                                              refine tl_step rfl (oj_val (y_assign fe_c) ?_)
                                              refine tl_step rfl (oj_val (y_assign fe_c) ?_)
                                              refine tl_nil ?_
                                              refine tx_then ?_
                                              refine tr_ret ?_
                                              refine tx_then_ret ?_
                                              refine tx_ret (res3 Try.results16 (rok_b 9 Try.isAgg23 Try.sizeOf23 rfl rfl rfl) (rok_t rfl) (rok_t rfl)) (fun w' hS => ?_)
                                              refine ⟨?_, hS.pick [] _ rfl (by decide)⟩
                                              rcases Hcs.out with ⟨h1, h2, h3⟩ | ⟨h1, h2, h3, h4⟩ | ⟨h1, h2, h3⟩ | ⟨h1, h2, h3, h4⟩ | ⟨h1, h2, h3⟩ | ⟨h1, h2⟩
                                              all_goals first | (exfalso; omega) | (subst h3; rfl) | (subst h4; rfl) | (subst h2; rfl)
                                          · try (first | (exfalso; omega) | (have hk2 : k = 0 ∨ k = 1 := (by omega); rcases hk2 with rfl | rfl))
                                            all_goals
                                              refine tr_skip ?_
                                              refine tx_then ?_
                                              refine tr_seq ?_
                                              refine tr_seq ?_
                                              refine tr_region ?_
                                              refine tl_step rfl (oj_val (y_move (fe_t rfl)) ?_)
                                              refine tl_step rfl (oj_val (y_lss (fe_t rfl) fe_c) ?_)
                                              refine tl_step rfl (oj_val (y_move (fe_t rfl)) ?_)
                                              refine tl_splitp (d := 119) rfl (fun hq95 => ?_) (fun hq96 => ?_)
                                              · try (first | (exfalso; omega) | (have hk2 : k = 0 ∨ k = 1 := (by omega); rcases hk2 with rfl | rfl))
                                                all_goals
                                                  refine tl_want rfl rfl rfl (oj_val (y_fieldAddr (td := 3) Try.underlying23 rfl rfl Try.sizeOf3 (o' := 4) rfl (fe_t rfl)) ?_)
                                                  refine tl_want rfl rfl rfl (oj_val (y_ldb 11 Try.isAgg3 (fe_t rfl) rfl rfl) ?_)
                                                  refine tl_want rfl rfl rfl (oj_val (y_fieldAddr (td := 3) Try.underlying25 rfl rfl Try.sizeOf3 (o' := 1) rfl (fe_t rfl)) ?_)
                                                  refine tl_want rfl rfl rfl (oj_val (y_ldb 10 Try.isAgg3 (fe_t rfl) rfl rfl) ?_)
                                                  refine tl_want rfl rfl rfl (oj_val (y_geq (fe_t rfl) (fe_t rfl)) ?_)
                                                  refine tl_step rfl (oj_val (y_pickt (fe_t rfl) (fe_t rfl)) ?_)
                                                  refine tl_nil ?_
                                                  refine tx_then ?_
                                                  refine tr_condp (fe_t rfl) (fun hq97 => ?_) (fun hq98 => ?_)
                                                  · try (first | (exfalso; omega) | (have hk2 : k = 0 ∨ k = 1 := (by omega); rcases hk2 with rfl | rfl))
                                                    all_goals
                                                      refine tr_seq ?_
                                                      refine tr_region ?_
                                                      refine tl_step rfl (oj_val (y_fieldAddr (td := 3) Try.underlying23 rfl rfl Try.sizeOf3 (o' := 4) rfl (fe_t rfl)) ?_)
                                                      refine tl_step rfl (oj_val (y_ldb 11 Try.isAgg3 (fe_t rfl) rfl rfl) ?_)
                                                      refine tl_step rfl (oj_val (y_fieldAddr (td := 3) Try.underlying25 rfl rfl Try.sizeOf3 (o' := 1) rfl (fe_t rfl)) ?_)
                                                      refine tl_step rfl (oj_val (y_ldb 10 Try.isAgg3 (fe_t rfl) rfl rfl) ?_)
                                                      refine tl_step rfl (oj_val (y_sub (fe_t rfl) (fe_t rfl) (by omega)) ?_)
                                                      refine tl_step rfl (oj_val (y_fieldAddr (td := 3) Try.underlying23 rfl rfl Try.sizeOf3 (o' := 4) rfl (fe_t rfl)) ?_)
                                                      refine tl_step rfl (oj_store1 11 Try.sizeOf3 (fe_t rfl) (fe_t rfl) rfl rfl rfl rfl (?_))
                                                      refine tl_nil ?_
                                                      refine tx_then ?_
                                                      refine tr_seq ?_
                                                      refine tr_region ?_
                                                      refine tl_step rfl (oj_val (y_ldbA 11 Try.isAgg23 Try.sizeOf23 (fe_t rfl) rfl rfl rfl) ?_)
                                                      refine tl_step rfl (oj_storeW 9 Try.sizeOf23 (fe_t rfl) (fe_t rfl) rfl rfl rfl rfl rfl (?_))
                                                      refine tl_step rfl (oj_val (y_assign fe_c) ?_)
                                                      refine tl_step rfl (oj_val (y_assign fe_c) ?_)
                                                      refine tl_nil ?_
                                                      refine tx_then ?_
                                                      refine tr_ret ?_
                                                      refine tx_then_ret ?_
                                                      refine tx_ret (res3 Try.results16 (rok_b 9 Try.isAgg23 Try.sizeOf23 rfl rfl rfl) (rok_t rfl) (rok_t rfl)) (fun w' hS => ?_)
                                                      refine ⟨?_, hS.pick [] _ rfl (by decide)⟩
                                                      rcases Hcs.out with ⟨h1, h2, h3⟩ | ⟨h1, h2, h3, h4⟩ | ⟨h1, h2, h3⟩ | ⟨h1, h2, h3, h4⟩ | ⟨h1, h2, h3⟩ | ⟨h1, h2⟩
                                                      all_goals first | (exfalso; omega) | (subst h3; rfl) | (subst h4; rfl) | (subst h2; rfl)
                                                  · try (first | (exfalso; omega) | (have hk2 : k = 0 ∨ k = 1 := (by omega); rcases hk2 with rfl | rfl))
                                                    all_goals
                                                      refine tr_skip ?_
                                                      refine tx_then ?_
                                                      refine tr_seq ?_
                                                      refine tr_region ?_
                                                      refine tl_step rfl (oj_val (y_ldbA 11 Try.isAgg23 Try.sizeOf23 (fe_t rfl) rfl rfl rfl) ?_)
                                                      refine tl_step rfl (oj_storeW 9 Try.sizeOf23 (fe_t rfl) (fe_t rfl) rfl rfl rfl rfl rfl (?_))
                                                      refine tl_step rfl (oj_val (y_assign fe_c) ?_)
                                                      refine tl_step rfl (oj_val (y_assign fe_c) ?_)
                                                      refine tl_nil ?_
                                                      refine tx_then ?_
                                                      refine tr_ret ?_
                                                      refine tx_ret (res3 Try.results16 (rok_b 9 Try.isAgg23 Try.sizeOf23 rfl rfl rfl) (rok_t rfl) (rok_t rfl)) (fun w' hS => ?_)
                                                      refine ⟨?_, hS.pick [] _ rfl (by decide)⟩
                                                      rcases Hcs.out with ⟨h1, h2, h3⟩ | ⟨h1, h2, h3, h4⟩ | ⟨h1, h2, h3⟩ | ⟨h1, h2, h3, h4⟩ | ⟨h1, h2, h3⟩ | ⟨h1, h2⟩
                                                      all_goals first | (exfalso; omega) | (subst h3; rfl) | (subst h4; rfl) | (subst h2; rfl)
                                              · try (first | (exfalso; omega) | (have hk2 : k = 0 ∨ k = 1 := (by omega); rcases hk2 with rfl | rfl))
                                                all_goals
                                                  refine tl_skip rfl rfl rfl rfl ?_
                                                  refine tl_skip rfl rfl rfl rfl ?_
                                                  refine tl_skip rfl rfl rfl rfl ?_
                                                  refine tl_skip rfl rfl rfl rfl ?_
                                                  refine tl_skip rfl rfl rfl rfl ?_
                                                  refine tl_step rfl (oj_val (y_pickf (fe_t rfl) fe_c) ?_)
                                                  refine tl_nil ?_
                                                  refine tx_then ?_
                                                  refine tr_condf (fe_t rfl) ?_
                                                  refine tr_skip ?_
                                                  refine tx_then ?_
                                                  refine tr_seq ?_
                                                  refine tr_region ?_
                                                  refine tl_step rfl (oj_val (y_ldbA 11 Try.isAgg23 Try.sizeOf23 (fe_t rfl) rfl rfl rfl) ?_)
                                                  refine tl_step rfl (oj_storeW 9 Try.sizeOf23 (fe_t rfl) (fe_t rfl) rfl rfl rfl rfl rfl (?_))
                                                  refine tl_step rfl (oj_val (y_assign fe_c) ?_)
                                                  refine tl_step rfl (oj_val (y_assign fe_c) ?_)
                                                  refine tl_nil ?_
                                                  refine tx_then ?_
                                                  refine tr_ret ?_
                                                  refine tx_ret (res3 Try.results16 (rok_b 9 Try.isAgg23 Try.sizeOf23 rfl rfl rfl) (rok_t rfl) (rok_t rfl)) (fun w' hS => ?_)
                                                  refine ⟨?_, hS.pick [] _ rfl (by decide)⟩
                                                  rcases Hcs.out with ⟨h1, h2, h3⟩ | ⟨h1, h2, h3, h4⟩ | ⟨h1, h2, h3⟩ | ⟨h1, h2, h3, h4⟩ | ⟨h1, h2, h3⟩ | ⟨h1, h2⟩
                                                  all_goals first | (exfalso; omega) | (subst h3; rfl) | (subst h4; rfl) | (subst h2; rfl)
                                      · try (first | (exfalso; omega) | (have hk2 : k = 0 ∨ k = 1 := (by omega); rcases hk2 with rfl | rfl))
                                        all_goals
                                          refine tl_skip rfl rfl rfl rfl ?_
                                          refine tl_skip rfl rfl rfl rfl ?_
                                          refine tl_skip rfl rfl rfl rfl ?_
                                          refine tl_skip rfl rfl rfl rfl ?_
                                          refine tl_skip rfl rfl rfl rfl ?_
                                          refine tl_step rfl (oj_val (y_pickf (fe_t rfl) fe_c) ?_)
                                          refine tl_nil ?_
                                          refine tx_then ?_
                                          refine tr_condf (fe_t rfl) ?_
                                          refine tr_skip ?_
                                          refine tx_then ?_
                                          refine tr_seq ?_
                                          refine tr_seq ?_
                                          refine tr_region ?_
                                          refine tl_step rfl (oj_val (y_move (fe_t rfl)) ?_)
                                          refine tl_step rfl (oj_val (y_lss (fe_t rfl) fe_c) ?_)
                                          refine tl_step rfl (oj_val (y_move (fe_t rfl)) ?_)
                                          refine tl_splitp (d := 119) rfl (fun hq99 => ?_) (fun hq100 => ?_)
                                          · try (first | (exfalso; omega) | (have hk2 : k = 0 ∨ k = 1 := (by omega); rcases hk2 with rfl | rfl))
                                            all_goals
                                              refine tl_want rfl rfl rfl (oj_val (y_fieldAddr (td := 3) Try.underlying23 rfl rfl Try.sizeOf3 (o' := 4) rfl (fe_t rfl)) ?_)
                                              refine tl_want rfl rfl rfl (oj_val (y_ldb 11 Try.isAgg3 (fe_t rfl) rfl rfl) ?_)
                                              refine tl_want rfl rfl rfl (oj_val (y_fieldAddr (td := 3) Try.underlying25 rfl rfl Try.sizeOf3 (o' := 1) rfl (fe_t rfl)) ?_)
                                              refine tl_want rfl rfl rfl (oj_val (y_ldb 10 Try.isAgg3 (fe_t rfl) rfl rfl) ?_)
                                              refine tl_want rfl rfl rfl (oj_val (y_geq (fe_t rfl) (fe_t rfl)) ?_)
                                              refine tl_step rfl (oj_val (y_pickt (fe_t rfl) (fe_t rfl)) ?_)
                                              refine tl_nil ?_
                                              refine tx_then ?_
                                              refine tr_condp (fe_t rfl) (fun hq101 => ?_) (fun hq102 => ?_)
                                              · try (first | (exfalso; omega) | (have hk2 : k = 0 ∨ k = 1 := (by omega); rcases hk2 with rfl | rfl))
                                                all_goals
                                                  refine tr_seq ?_
                                                  refine tr_region ?_
                                                  refine tl_step rfl (oj_val (y_fieldAddr (td := 3) Try.underlying23 rfl rfl Try.sizeOf3 (o' := 4) rfl (fe_t rfl)) ?_)
                                                  refine tl_step rfl (oj_val (y_ldb 11 Try.isAgg3 (fe_t rfl) rfl rfl) ?_)
                                                  refine tl_step rfl (oj_val (y_fieldAddr (td := 3) Try.underlying25 rfl rfl Try.sizeOf3 (o' := 1) rfl (fe_t rfl)) ?_)
                                                  refine tl_step rfl (oj_val (y_ldb 10 Try.isAgg3 (fe_t rfl) rfl rfl) ?_)
                                                  refine tl_step rfl (oj_val (y_sub (fe_t rfl) (fe_t rfl) (by omega)) ?_)
                                                  refine tl_step rfl (oj_val (y_fieldAddr (td := 3) Try.underlying23 rfl rfl Try.sizeOf3 (o' := 4) rfl (fe_t rfl)) ?_)
                                                  refine tl_step rfl (oj_store1 11 Try.sizeOf3 (fe_t rfl) (fe_t rfl) rfl rfl rfl rfl (?_))
                                                  refine tl_nil ?_
                                                  refine tx_then ?_
                                                  refine tr_seq ?_
                                                  refine tr_region ?_
                                                  refine tl_step rfl (oj_val (y_ldbA 11 Try.isAgg23 Try.sizeOf23 (fe_t rfl) rfl rfl rfl) ?_)
                                                  refine tl_step rfl (oj_storeW 9 Try.sizeOf23 (fe_t rfl) (fe_t rfl) rfl rfl rfl rfl rfl (?_))
                                                  refine tl_step rfl (oj_val (y_assign fe_c) ?_)
                                                  refine tl_step rfl (oj_val (y_assign fe_c) ?_)
                                                  refine tl_nil ?_
                                                  refine tx_then ?_
                                                  refine tr_ret ?_
                                                  refine tx_then_ret ?_
                                                  refine tx_ret (res3 Try.results16 (rok_b 9 Try.isAgg23 Try.sizeOf23 rfl rfl rfl) (rok_t rfl) (rok_t rfl)) (fun w' hS => ?_)
                                                  refine ⟨?_, hS.pick [] _ rfl (by decide)⟩
                                                  rcases Hcs.out with ⟨h1, h2, h3⟩ | ⟨h1, h2, h3, h4⟩ | ⟨h1, h2, h3⟩ | ⟨h1, h2, h3, h4⟩ | ⟨h1, h2, h3⟩ | ⟨h1, h2⟩
                                                  all_goals first | (exfalso; omega) | (subst h3; rfl) | (subst h4; rfl) | (subst h2; rfl)
                                              · try (first | (exfalso; omega) | (have hk2 : k = 0 ∨ k = 1 := (by omega); rcases hk2 with rfl | rfl))
                                                all_goals
                                                  refine tr_skip ?_
                                                  refine tx_then ?_
                                                  refine tr_seq ?_
                                                  refine tr_region ?_
                                                  refine tl_step rfl (oj_val (y_ldbA 11 Try.isAgg23 Try.sizeOf23 (fe_t rfl) rfl rfl rfl) ?_)
                                                  refine tl_step rfl (oj_storeW 9 Try.sizeOf23 (fe_t rfl) (fe_t rfl) rfl rfl rfl rfl rfl (?_))
                                                  refine tl_step rfl (oj_val (y_assign fe_c) ?_)
                                                  refine tl_step rfl (oj_val (y_assign fe_c) ?_)
                                                  refine tl_nil ?_
                                                  refine tx_then ?_
                                                  refine tr_ret ?_
                                                  refine tx_ret (res3 Try.results16 (rok_b 9 Try.isAgg23 Try.sizeOf23 rfl rfl rfl) (rok_t rfl) (rok_t rfl)) (fun w' hS => ?_)
                                                  refine ⟨?_, hS.pick [] _ rfl (by decide)⟩
                                                  rcases Hcs.out with ⟨h1, h2, h3⟩ | ⟨h1, h2, h3, h4⟩ | ⟨h1, h2, h3⟩ | ⟨h1, h2, h3, h4⟩ | ⟨h1, h2, h3⟩ | ⟨h1, h2⟩
                                                  all_goals first | (exfalso; omega) | (subst h3; rfl) | (subst h4; rfl) | (subst h2; rfl)
                                          · try (first | (exfalso; omega) | (have hk2 : k = 0 ∨ k = 1 := (by omega); rcases hk2 with rfl | rfl))
                                            all_goals
                                              refine tl_skip rfl rfl rfl rfl ?_
                                              refine tl_skip rfl rfl rfl rfl ?_
                                              refine tl_skip rfl rfl rfl rfl ?_
                                              refine tl_skip rfl rfl rfl rfl ?_
                                              refine tl_skip rfl rfl rfl rfl ?_
                                              refine tl_step rfl (oj_val (y_pickf (fe_t rfl) fe_c) ?_)
                                              refine tl_nil ?_
                                              refine tx_then ?_
                                              refine tr_condf (fe_t rfl) ?_
                                              refine tr_skip ?_
                                              refine tx_then ?_
                                              refine tr_seq ?_
                                              refine tr_region ?_
                                              refine tl_step rfl (oj_val (y_ldbA 11 Try.isAgg23 Try.sizeOf23 (fe_t rfl) rfl rfl rfl) ?_)
                                              refine tl_step rfl (oj_storeW 9 Try.sizeOf23 (fe_t rfl) (fe_t rfl) rfl rfl rfl rfl rfl (?_))
                                              refine tl_step rfl (oj_val (y_assign fe_c) ?_)
                                              refine tl_step rfl (oj_val (y_assign fe_c) ?_)
                                              refine tl_nil ?_
                                              refine tx_then ?_
                                              refine tr_ret ?_
                                              refine tx_ret (res3 Try.results16 (rok_b 9 Try.isAgg23 Try.sizeOf23 rfl rfl rfl) (rok_t rfl) (rok_t rfl)) (fun w' hS => ?_)
                                              refine ⟨?_, hS.pick [] _ rfl (by decide)⟩
                                              rcases Hcs.out with ⟨h1, h2, h3⟩ | ⟨h1, h2, h3, h4⟩ | ⟨h1, h2, h3⟩ | ⟨h1, h2, h3, h4⟩ | ⟨h1, h2, h3⟩ | ⟨h1, h2⟩
                                              all_goals first | (exfalso; omega) | (subst h3; rfl) | (subst h4; rfl) | (subst h2; rfl)
end Go.Proofs.Ytdfjeoifeladfaa.Meter
