/- Walks: what is wrong with a head. -/
import Derived.Test.YtpknjfeiiaopgaaHdV
namespace Go.Proofs.Ytpknjfeiiaopgaa.Head
open Go.RowKit Go.Proofs.Ytpknjfeiiaopgaa.E

set_option maxRecDepth 100000 in
theorem portE (n : Int) (w : World) :
    Calls Try.prog 61 #[(.int .i64 n)] w fun e w' => e = .returned (.bool (decide (0 ≤ n ∧ n ≤ 65535))) ∧ St w w' [] := by
  refine calls_tr Try.func61 Try.ntmps61 rfl rfl (St.refl _) ?_
  refine tr_seq ?_
  refine tr_region ?_
  refine tl_step rfl (oj_val (y_assign fe_c) ?_)
  refine tl_nil ?_
  refine tx_then ?_
  refine tr_seq ?_
  refine tr_region ?_
  refine tl_step rfl (oj_val (y_move (fe_t rfl)) ?_)
  refine tl_step rfl (oj_val (y_geq (fe_t rfl) fe_c) ?_)
  refine tl_step rfl (oj_val (y_move (fe_t rfl)) ?_)
  refine tl_splitp (d := 5) rfl (fun hq1 => ?_) (fun hq2 => ?_)
  · refine tl_want rfl rfl rfl (oj_val (y_move (fe_t rfl)) ?_)
    refine tl_want rfl rfl rfl (oj_val (y_leq (fe_t rfl) fe_c) ?_)
    refine tl_step rfl (oj_val (y_pickt (fe_t rfl) (fe_t rfl)) ?_)
    refine tl_step rfl (oj_val (y_assign (fe_t rfl)) ?_)
    refine tl_nil ?_
    refine tx_then ?_
    refine tr_ret ?_
    refine tx_ret (res1 Try.results61 (rok_t rfl)) (fun w' hS => ?_)
    exact ⟨ret_bool (by first | exact decide_eq_decide.2 ⟨fun h => by omega, fun h => by omega⟩ | exact (decide_eq_false (by omega)).symm), hS.pick [] _ rfl (by decide)⟩
  · refine tl_skip rfl rfl rfl rfl ?_
    refine tl_skip rfl rfl rfl rfl ?_
    refine tl_step rfl (oj_val (y_pickf (fe_t rfl) fe_c) ?_)
    refine tl_step rfl (oj_val (y_assign (fe_t rfl)) ?_)
    refine tl_nil ?_
    refine tx_then ?_
    refine tr_ret ?_
    refine tx_ret (res1 Try.results61 (rok_t rfl)) (fun w' hS => ?_)
    exact ⟨ret_bool (by first | exact decide_eq_decide.2 ⟨fun h => by omega, fun h => by omega⟩ | exact (decide_eq_false (by omega)).symm), hS.pick [] _ rfl (by decide)⟩

set_option maxRecDepth 100000 in
theorem eportsE (n : Int) (w : World) :
    Calls Try.prog 57 #[(.int .i64 n)] w fun e w' => e = .returned (.bool (decide (n = 6 ∨ n = 17))) ∧ St w w' [] := by
  refine calls_tr Try.func57 Try.ntmps57 rfl rfl (St.refl _) ?_
  refine tr_seq ?_
  refine tr_region ?_
  refine tl_step rfl (oj_val (y_assign fe_c) ?_)
  refine tl_nil ?_
  refine tx_then ?_
  refine tr_seq ?_
  refine tr_region ?_
  refine tl_step rfl (oj_val (y_move (fe_t rfl)) ?_)
  refine tl_step rfl (oj_val (y_eq (fe_t rfl) fe_c) ?_)
  refine tl_step rfl (oj_val (y_move (fe_t rfl)) ?_)
  refine tl_splitp (d := 5) rfl (fun hq1 => ?_) (fun hq2 => ?_)
  · refine tl_skip rfl rfl rfl rfl ?_
    refine tl_skip rfl rfl rfl rfl ?_
    refine tl_step rfl (oj_val (y_pickt (fe_t rfl) fe_c) ?_)
    refine tl_step rfl (oj_val (y_assign (fe_t rfl)) ?_)
    refine tl_nil ?_
    refine tx_then ?_
    refine tr_ret ?_
    refine tx_ret (res1 Try.results57 (rok_t rfl)) (fun w' hS => ?_)
    exact ⟨ret_bool (by first | exact decide_eq_decide.2 ⟨fun h => by omega, fun h => by omega⟩ | exact (decide_eq_true (by omega)).symm), hS.pick [] _ rfl (by decide)⟩
  · refine tl_want rfl rfl rfl (oj_val (y_move (fe_t rfl)) ?_)
    refine tl_want rfl rfl rfl (oj_val (y_eq (fe_t rfl) fe_c) ?_)
    refine tl_step rfl (oj_val (y_pickf (fe_t rfl) (fe_t rfl)) ?_)
    refine tl_step rfl (oj_val (y_assign (fe_t rfl)) ?_)
    refine tl_nil ?_
    refine tx_then ?_
    refine tr_ret ?_
    refine tx_ret (res1 Try.results57 (rok_t rfl)) (fun w' hS => ?_)
    exact ⟨ret_bool (by first | exact decide_eq_decide.2 ⟨fun h => by omega, fun h => by omega⟩ | exact (decide_eq_true (by omega)).symm), hS.pick [] _ rfl (by decide)⟩

set_option maxRecDepth 100000 in
set_option maxHeartbeats 4000000 in
theorem wrongE (h : Hd) (w : World) :
    Calls Try.prog 20 #[.agg #[.int .u8 h.s0, .int .u8 h.s1, .int .u8 h.s2, .int .u8 h.s3, .int .u8 h.d0, .int .u8 h.d1, .int .u8 h.d2, .int .u8 h.d3, (.int .i64 h.pr), (.int .i64 h.sp), (.int .i64 h.dp), (.int .i64 h.ln), (.int .i64 h.mr)]] w fun e w' => e = .returned (.int .i64 (wr h)) ∧ St w w' [] := by
  refine calls_tr Try.func20 Try.ntmps20 rfl rfl (St.refl _) ?_
  refine tr_seq ?_
  refine tr_region ?_
  refine tl_step rfl (oj_box (fe_t rfl) (fun hb => ?_))
  refine tl_step rfl (oj_val (y_assign fe_c) ?_)
  refine tl_nil ?_
  refine tx_then ?_
  refine tr_seq ?_
  refine tr_region ?_
  refine tl_step rfl (oj_val (y_assign fe_f) ?_)
  refine tl_nil ?_
  refine tx_then ?_
  refine tr_cut1 [4, 5, 6, 7, 8, 9, 10, 11, 12] (fun (p4 : Bool) => [(4, .bool p4)]) 0 (fun (p4 : Bool) => []) (fun (p4 : Bool) => (p4 = true → (h.pr = 6 ∨ h.pr = 17)) ∧ (p4 = false → ¬ (h.pr = 6 ∨ h.pr = 17))) ?_ ?_
  · refine tr_region ?_
    refine tl_step rfl (oj_val (y_fieldAddr (td := 3) Try.underlying38 rfl rfl Try.sizeOf3 (o' := 8) rfl (fe_t rfl)) ?_)
    refine tl_step rfl (oj_val (y_ldb 0 Try.isAgg3 (fe_t rfl) rfl rfl) ?_)
    refine tl_step rfl (oj_val (y_eq (fe_t rfl) fe_c) ?_)
    refine tl_step rfl (oj_val (y_move (fe_t rfl)) ?_)
    refine tl_splitp (d := 8) rfl (fun hq1 => ?_) (fun hq2 => ?_)
    · try (exfalso; omega)
      all_goals
        refine tl_skip rfl rfl rfl rfl ?_
        refine tl_skip rfl rfl rfl rfl ?_
        refine tl_skip rfl rfl rfl rfl ?_
        refine tl_step rfl (oj_val (y_pickt (fe_t rfl) fe_c) ?_)
        refine tl_step rfl (oj_val (y_assign (fe_t rfl)) ?_)
        refine tl_nil ?_
        apply tx_back1 (_)
        · exact (cov_cons (by first | rfl | exact v_int (by omega) | exact v_bool (by simp [*])) (cov_nil))
        · repeat (first | exact over_nil | refine over_put rfl ?_ | refine over_drop rfl ?_)
        · exact fun w h => h.pick [0] _ rfl (by decide)
        · refine ⟨fun h9 => ?_, fun h9 => ?_⟩ <;> first | omega | (simp only [decide_eq_true_eq, decide_eq_false_iff_not] at h9; omega) | exact absurd h9 (by decide)
    · try (exfalso; omega)
      all_goals
        refine tl_want rfl rfl rfl (oj_val (y_fieldAddr (td := 3) Try.underlying38 rfl rfl Try.sizeOf3 (o' := 8) rfl (fe_t rfl)) ?_)
        refine tl_want rfl rfl rfl (oj_val (y_ldb 0 Try.isAgg3 (fe_t rfl) rfl rfl) ?_)
        refine tl_want rfl rfl rfl (oj_val (y_eq (fe_t rfl) fe_c) ?_)
        refine tl_step rfl (oj_val (y_pickf (fe_t rfl) (fe_t rfl)) ?_)
        refine tl_step rfl (oj_val (y_assign (fe_t rfl)) ?_)
        refine tl_nil ?_
        apply tx_back1 (_)
        · exact (cov_cons (by first | rfl | exact v_int (by omega) | exact v_bool (by simp [*])) (cov_nil))
        · repeat (first | exact over_nil | refine over_put rfl ?_ | refine over_drop rfl ?_)
        · exact fun w h => h.pick [0] _ rfl (by decide)
        · refine ⟨fun h9 => ?_, fun h9 => ?_⟩ <;> first | omega | (simp only [decide_eq_true_eq, decide_eq_false_iff_not] at h9; omega) | exact absurd h9 (by decide)
  · intro p4 hp
    obtain ⟨hpt4, hpf4⟩ := hp
    refine tr_seq ?_
    refine tr_block ?_
    refine tr_cut1 [13, 14, 15, 16, 17, 18, 19, 20, 21, 22, 23, 24, 25, 26, 27, 28, 29, 30, 31, 32, 33, 34, 35, 36, 37, 38, 39, 40, 41, 42, 43, 44, 45] (fun (p13 : Bool) => [(13, .bool p13)]) 0 (fun (p13 : Bool) => []) (fun (p13 : Bool) => (p13 = true → (h.pr < 0 ∨ 255 < h.pr ∨ h.mr < 0 ∨ 63 < h.mr ∨ h.sp < 0 ∨ 65535 < h.sp ∨ h.dp < 0 ∨ 65535 < h.dp)) ∧ (p13 = false → ¬ (h.pr < 0 ∨ 255 < h.pr ∨ h.mr < 0 ∨ 63 < h.mr ∨ h.sp < 0 ∨ 65535 < h.sp ∨ h.dp < 0 ∨ 65535 < h.dp))) ?_ ?_
    · refine tr_region ?_
      refine tl_step rfl (oj_val (y_fieldAddr (td := 3) Try.underlying38 rfl rfl Try.sizeOf3 (o' := 8) rfl (fe_t rfl)) ?_)
      refine tl_step rfl (oj_val (y_ldb 0 Try.isAgg3 (fe_t rfl) rfl rfl) ?_)
      refine tl_step rfl (oj_val (y_lss (fe_t rfl) fe_c) ?_)
      refine tl_step rfl (oj_val (y_move (fe_t rfl)) ?_)
      refine tl_splitp (d := 17) rfl (fun hq3 => ?_) (fun hq4 => ?_)
      · try (exfalso; omega)
        all_goals
          refine tl_skip rfl rfl rfl rfl ?_
          refine tl_skip rfl rfl rfl rfl ?_
          refine tl_skip rfl rfl rfl rfl ?_
          refine tl_step rfl (oj_val (y_pickt (fe_t rfl) fe_c) ?_)
          refine tl_step rfl (oj_val (y_move (fe_t rfl)) ?_)
          refine tl_skip rfl rfl rfl rfl ?_
          refine tl_skip rfl rfl rfl rfl ?_
          refine tl_skip rfl rfl rfl rfl ?_
          refine tl_step rfl (oj_val (y_pickt (fe_t rfl) fe_c) ?_)
          refine tl_step rfl (oj_val (y_move (fe_t rfl)) ?_)
          refine tl_skip rfl rfl rfl rfl ?_
          refine tl_skip rfl rfl rfl rfl ?_
          refine tl_skip rfl rfl rfl rfl ?_
          refine tl_step rfl (oj_val (y_pickt (fe_t rfl) fe_c) ?_)
          refine tl_step rfl (oj_val (y_move (fe_t rfl)) ?_)
          refine tl_skip rfl rfl rfl rfl ?_
          refine tl_skip rfl rfl rfl rfl ?_
          refine tl_skip rfl rfl rfl rfl ?_
          refine tl_skip rfl rfl rfl rfl ?_
          refine tl_skip rfl rfl rfl rfl ?_
          refine tl_step rfl (oj_val (y_pickt (fe_t rfl) fe_c) ?_)
          refine tl_step rfl (oj_val (y_move (fe_t rfl)) ?_)
          refine tl_skip rfl rfl rfl rfl ?_
          refine tl_skip rfl rfl rfl rfl ?_
          refine tl_skip rfl rfl rfl rfl ?_
          refine tl_skip rfl rfl rfl rfl ?_
          refine tl_skip rfl rfl rfl rfl ?_
          refine tl_step rfl (oj_val (y_pickt (fe_t rfl) fe_c) ?_)
          refine tl_step rfl (oj_val (y_assign (fe_t rfl)) ?_)
          refine tl_nil ?_
          apply tx_back1 (_)
          · exact (cov_cons (by first | rfl | exact v_int (by omega) | exact v_bool (by simp [*])) (cov_nil))
          · repeat (first | exact over_nil | refine over_put rfl ?_ | refine over_drop rfl ?_)
          · exact fun w h => h.pick [0] _ rfl (by decide)
          · refine ⟨fun h9 => ?_, fun h9 => ?_⟩ <;> first | omega | (simp only [decide_eq_true_eq, decide_eq_false_iff_not] at h9; omega) | exact absurd h9 (by decide)
      · try (exfalso; omega)
        all_goals
          refine tl_want rfl rfl rfl (oj_val (y_fieldAddr (td := 3) Try.underlying38 rfl rfl Try.sizeOf3 (o' := 8) rfl (fe_t rfl)) ?_)
          refine tl_want rfl rfl rfl (oj_val (y_ldb 0 Try.isAgg3 (fe_t rfl) rfl rfl) ?_)
          refine tl_want rfl rfl rfl (oj_val (y_gtr (fe_t rfl) fe_c) ?_)
          refine tl_step rfl (oj_val (y_pickf (fe_t rfl) (fe_t rfl)) ?_)
          refine tl_step rfl (oj_val (y_move (fe_t rfl)) ?_)
          refine tl_splitp (d := 22) rfl (fun hq5 => ?_) (fun hq6 => ?_)
          · try (exfalso; omega)
            all_goals
              refine tl_skip rfl rfl rfl rfl ?_
              refine tl_skip rfl rfl rfl rfl ?_
              refine tl_skip rfl rfl rfl rfl ?_
              refine tl_step rfl (oj_val (y_pickt (fe_t rfl) fe_c) ?_)
              refine tl_step rfl (oj_val (y_move (fe_t rfl)) ?_)
              refine tl_skip rfl rfl rfl rfl ?_
              refine tl_skip rfl rfl rfl rfl ?_
              refine tl_skip rfl rfl rfl rfl ?_
              refine tl_step rfl (oj_val (y_pickt (fe_t rfl) fe_c) ?_)
              refine tl_step rfl (oj_val (y_move (fe_t rfl)) ?_)
              refine tl_skip rfl rfl rfl rfl ?_
              refine tl_skip rfl rfl rfl rfl ?_
              refine tl_skip rfl rfl rfl rfl ?_
              refine tl_skip rfl rfl rfl rfl ?_
              refine tl_skip rfl rfl rfl rfl ?_
              refine tl_step rfl (oj_val (y_pickt (fe_t rfl) fe_c) ?_)
              refine tl_step rfl (oj_val (y_move (fe_t rfl)) ?_)
              refine tl_skip rfl rfl rfl rfl ?_
              refine tl_skip rfl rfl rfl rfl ?_
              refine tl_skip rfl rfl rfl rfl ?_
              refine tl_skip rfl rfl rfl rfl ?_
              refine tl_skip rfl rfl rfl rfl ?_
              refine tl_step rfl (oj_val (y_pickt (fe_t rfl) fe_c) ?_)
              refine tl_step rfl (oj_val (y_assign (fe_t rfl)) ?_)
              refine tl_nil ?_
              apply tx_back1 (_)
              · exact (cov_cons (by first | rfl | exact v_int (by omega) | exact v_bool (by simp [*])) (cov_nil))
              · repeat (first | exact over_nil | refine over_put rfl ?_ | refine over_drop rfl ?_)
              · exact fun w h => h.pick [0] _ rfl (by decide)
              · refine ⟨fun h9 => ?_, fun h9 => ?_⟩ <;> first | omega | (simp only [decide_eq_true_eq, decide_eq_false_iff_not] at h9; omega) | exact absurd h9 (by decide)
          · try (exfalso; omega)
            all_goals
              refine tl_want rfl rfl rfl (oj_val (y_fieldAddr (td := 3) Try.underlying38 rfl rfl Try.sizeOf3 (o' := 12) rfl (fe_t rfl)) ?_)
              refine tl_want rfl rfl rfl (oj_val (y_ldb 0 Try.isAgg3 (fe_t rfl) rfl rfl) ?_)
              refine tl_want rfl rfl rfl (oj_val (y_lss (fe_t rfl) fe_c) ?_)
              refine tl_step rfl (oj_val (y_pickf (fe_t rfl) (fe_t rfl)) ?_)
              refine tl_step rfl (oj_val (y_move (fe_t rfl)) ?_)
              refine tl_splitp (d := 27) rfl (fun hq7 => ?_) (fun hq8 => ?_)
              · try (exfalso; omega)
                all_goals
                  refine tl_skip rfl rfl rfl rfl ?_
                  refine tl_skip rfl rfl rfl rfl ?_
                  refine tl_skip rfl rfl rfl rfl ?_
                  refine tl_step rfl (oj_val (y_pickt (fe_t rfl) fe_c) ?_)
                  refine tl_step rfl (oj_val (y_move (fe_t rfl)) ?_)
                  refine tl_skip rfl rfl rfl rfl ?_
                  refine tl_skip rfl rfl rfl rfl ?_
                  refine tl_skip rfl rfl rfl rfl ?_
                  refine tl_skip rfl rfl rfl rfl ?_
                  refine tl_skip rfl rfl rfl rfl ?_
                  refine tl_step rfl (oj_val (y_pickt (fe_t rfl) fe_c) ?_)
                  refine tl_step rfl (oj_val (y_move (fe_t rfl)) ?_)
                  refine tl_skip rfl rfl rfl rfl ?_
                  refine tl_skip rfl rfl rfl rfl ?_
                  refine tl_skip rfl rfl rfl rfl ?_
                  refine tl_skip rfl rfl rfl rfl ?_
                  refine tl_skip rfl rfl rfl rfl ?_
                  refine tl_step rfl (oj_val (y_pickt (fe_t rfl) fe_c) ?_)
                  refine tl_step rfl (oj_val (y_assign (fe_t rfl)) ?_)
                  refine tl_nil ?_
                  apply tx_back1 (_)
                  · exact (cov_cons (by first | rfl | exact v_int (by omega) | exact v_bool (by simp [*])) (cov_nil))
                  · repeat (first | exact over_nil | refine over_put rfl ?_ | refine over_drop rfl ?_)
                  · exact fun w h => h.pick [0] _ rfl (by decide)
                  · refine ⟨fun h9 => ?_, fun h9 => ?_⟩ <;> first | omega | (simp only [decide_eq_true_eq, decide_eq_false_iff_not] at h9; omega) | exact absurd h9 (by decide)
              · try (exfalso; omega)
                all_goals
                  refine tl_want rfl rfl rfl (oj_val (y_fieldAddr (td := 3) Try.underlying38 rfl rfl Try.sizeOf3 (o' := 12) rfl (fe_t rfl)) ?_)
                  refine tl_want rfl rfl rfl (oj_val (y_ldb 0 Try.isAgg3 (fe_t rfl) rfl rfl) ?_)
                  refine tl_want rfl rfl rfl (oj_val (y_gtr (fe_t rfl) fe_c) ?_)
                  refine tl_step rfl (oj_val (y_pickf (fe_t rfl) (fe_t rfl)) ?_)
                  refine tl_step rfl (oj_val (y_move (fe_t rfl)) ?_)
                  refine tl_splitp (d := 32) rfl (fun hq9 => ?_) (fun hq10 => ?_)
                  · try (exfalso; omega)
                    all_goals
                      refine tl_skip rfl rfl rfl rfl ?_
                      refine tl_skip rfl rfl rfl rfl ?_
                      refine tl_skip rfl rfl rfl rfl ?_
                      refine tl_skip rfl rfl rfl rfl ?_
                      refine tl_skip rfl rfl rfl rfl ?_
                      refine tl_step rfl (oj_val (y_pickt (fe_t rfl) fe_c) ?_)
                      refine tl_step rfl (oj_val (y_move (fe_t rfl)) ?_)
                      refine tl_skip rfl rfl rfl rfl ?_
                      refine tl_skip rfl rfl rfl rfl ?_
                      refine tl_skip rfl rfl rfl rfl ?_
                      refine tl_skip rfl rfl rfl rfl ?_
                      refine tl_skip rfl rfl rfl rfl ?_
                      refine tl_step rfl (oj_val (y_pickt (fe_t rfl) fe_c) ?_)
                      refine tl_step rfl (oj_val (y_assign (fe_t rfl)) ?_)
                      refine tl_nil ?_
                      apply tx_back1 (_)
                      · exact (cov_cons (by first | rfl | exact v_int (by omega) | exact v_bool (by simp [*])) (cov_nil))
                      · repeat (first | exact over_nil | refine over_put rfl ?_ | refine over_drop rfl ?_)
                      · exact fun w h => h.pick [0] _ rfl (by decide)
                      · refine ⟨fun h9 => ?_, fun h9 => ?_⟩ <;> first | omega | (simp only [decide_eq_true_eq, decide_eq_false_iff_not] at h9; omega) | exact absurd h9 (by decide)
                  · try (exfalso; omega)
                    all_goals
                      refine tl_want rfl rfl rfl (oj_val (y_move (fe_t rfl)) ?_)
                      refine tl_want rfl rfl rfl (oj_val (y_fieldAddr (td := 3) Try.underlying38 rfl rfl Try.sizeOf3 (o' := 9) rfl (fe_t rfl)) ?_)
                      refine tl_want rfl rfl rfl (oj_val (y_ldb 0 Try.isAgg3 (fe_t rfl) rfl rfl) ?_)
                      refine tl_want rfl rfl rfl (oj_callv Try.call61 (fe_t rfl) (fel_cons (fe_t rfl) fel_nil) (fun w' hS => portE h.sp w') ?_)
                      refine tl_want rfl rfl rfl (oj_val (y_notp (fe_t rfl)) ?_)
                      refine tl_step rfl (oj_val (y_pickf (fe_t rfl) (fe_t rfl)) ?_)
                      refine tl_step rfl (oj_val (y_move (fe_t rfl)) ?_)
                      refine tl_splitp (d := 39) rfl (fun hq11 => ?_) (fun hq12 => ?_)
                      · try (exfalso; omega)
                        all_goals
                          refine tl_skip rfl rfl rfl rfl ?_
                          refine tl_skip rfl rfl rfl rfl ?_
                          refine tl_skip rfl rfl rfl rfl ?_
                          refine tl_skip rfl rfl rfl rfl ?_
                          refine tl_skip rfl rfl rfl rfl ?_
                          refine tl_step rfl (oj_val (y_pickt (fe_t rfl) fe_c) ?_)
                          refine tl_step rfl (oj_val (y_assign (fe_t rfl)) ?_)
                          refine tl_nil ?_
                          apply tx_back1 (_)
                          · exact (cov_cons (by first | rfl | exact v_int (by omega) | exact v_bool (by simp [*])) (cov_nil))
                          · repeat (first | exact over_nil | refine over_put rfl ?_ | refine over_drop rfl ?_)
                          · exact fun w h => h.pick [0] _ rfl (by decide)
                          · refine ⟨fun h9 => ?_, fun h9 => ?_⟩ <;> first | omega | (simp only [decide_eq_true_eq, decide_eq_false_iff_not] at h9; omega) | exact absurd h9 (by decide)
                      · try (exfalso; omega)
                        all_goals
                          refine tl_want rfl rfl rfl (oj_val (y_move (fe_t rfl)) ?_)
                          refine tl_want rfl rfl rfl (oj_val (y_fieldAddr (td := 3) Try.underlying38 rfl rfl Try.sizeOf3 (o' := 10) rfl (fe_t rfl)) ?_)
                          refine tl_want rfl rfl rfl (oj_val (y_ldb 0 Try.isAgg3 (fe_t rfl) rfl rfl) ?_)
                          refine tl_want rfl rfl rfl (oj_callv Try.call61 (fe_t rfl) (fel_cons (fe_t rfl) fel_nil) (fun w' hS => portE h.dp w') ?_)
                          refine tl_want rfl rfl rfl (oj_val (y_notp (fe_t rfl)) ?_)
                          refine tl_step rfl (oj_val (y_pickf (fe_t rfl) (fe_t rfl)) ?_)
                          refine tl_step rfl (oj_val (y_assign (fe_t rfl)) ?_)
                          refine tl_nil ?_
                          apply tx_back1 (_)
                          · exact (cov_cons (by first | rfl | exact v_int (by omega) | exact v_bool (by simp [*])) (cov_nil))
                          · repeat (first | exact over_nil | refine over_put rfl ?_ | refine over_drop rfl ?_)
                          · exact fun w h => h.pick [0] _ rfl (by decide)
                          · refine ⟨fun h9 => ?_, fun h9 => ?_⟩ <;> first | omega | (simp only [decide_eq_true_eq, decide_eq_false_iff_not] at h9; omega) | exact absurd h9 (by decide)
    · intro p13 hp
      obtain ⟨hpt13, hpf13⟩ := hp
      refine tr_cond (fe_t rfl) (fun hq13 => ?_) (fun hq14 => ?_)
      · try (exfalso; omega)
        all_goals
          have hK13 := hpt13 hq13
          refine tr_seq ?_
          refine tr_region ?_
          refine tl_step rfl (oj_val (y_assign fe_c) ?_)
          refine tl_nil ?_
          refine tx_then ?_
          refine tr_ret ?_
          refine tx_in_ret ?_
          refine tx_then_ret ?_
          refine tx_ret (res1 Try.results20 (rok_t rfl)) (fun w' hS => ?_)
          have hw := wr_2 hK13
          exact ⟨by rw [hw], hS.pick [] _ rfl (by decide)⟩
      · try (exfalso; omega)
        all_goals
          have hK13 := hpf13 hq14
          refine tr_cut1 [46, 47, 48, 49, 50, 51, 52, 53, 54, 55, 56, 57, 58] (fun (p46 : Bool) => [(46, .bool p46)]) 0 (fun (p46 : Bool) => []) (fun (p46 : Bool) => (p46 = true → (¬ (h.pr = 6 ∨ h.pr = 17) ∧ (0 < h.sp ∨ 0 < h.dp))) ∧ (p46 = false → ¬ (¬ (h.pr = 6 ∨ h.pr = 17) ∧ (0 < h.sp ∨ 0 < h.dp)))) ?_ ?_
          · refine tr_region ?_
            refine tl_step rfl (oj_val (y_move (fe_t rfl)) ?_)
            refine tl_step rfl (oj_val (y_not (fe_t rfl)) ?_)
            refine tl_step rfl (oj_val (y_move (fe_t rfl)) ?_)
            refine tl_split (d := 49) rfl (fun hq15 => ?_) (fun hq16 => ?_)
            · try (exfalso; omega)
              all_goals
                have hP := hpf4 (by simpa using hq15)
                refine tl_want rfl rfl rfl (oj_val (y_fieldAddr (td := 3) Try.underlying38 rfl rfl Try.sizeOf3 (o' := 9) rfl (fe_t rfl)) ?_)
                refine tl_want rfl rfl rfl (oj_val (y_ldb 0 Try.isAgg3 (fe_t rfl) rfl rfl) ?_)
                refine tl_want rfl rfl rfl (oj_val (y_gtr (fe_t rfl) fe_c) ?_)
                refine tl_want rfl rfl rfl (oj_val (y_move (fe_t rfl)) ?_)
                refine tl_splitp (d := 53) rfl (fun hq17 => ?_) (fun hq18 => ?_)
                · try (exfalso; omega)
                  all_goals
                    refine tl_skip rfl rfl rfl rfl ?_
                    refine tl_skip rfl rfl rfl rfl ?_
                    refine tl_skip rfl rfl rfl rfl ?_
                    refine tl_want rfl rfl rfl (oj_val (y_pickt (fe_t rfl) fe_c) ?_)
                    refine tl_step rfl (oj_val (y_pickt (fe_t rfl) (fe_t rfl)) ?_)
                    refine tl_step rfl (oj_val (y_assign (fe_t rfl)) ?_)
                    refine tl_nil ?_
                    apply tx_back1 (_)
                    · exact (cov_cons (by first | rfl | exact v_int (by omega) | exact v_bool (by simp [*])) (cov_nil))
                    · repeat (first | exact over_nil | refine over_put rfl ?_ | refine over_drop rfl ?_)
                    · exact fun w h => h.pick [0] _ rfl (by decide)
                    · refine ⟨fun h9 => ?_, fun h9 => ?_⟩ <;> first | omega | (simp only [decide_eq_true_eq, decide_eq_false_iff_not] at h9; omega) | exact absurd h9 (by decide)
                · try (exfalso; omega)
                  all_goals
                    refine tl_want rfl rfl rfl (oj_val (y_fieldAddr (td := 3) Try.underlying38 rfl rfl Try.sizeOf3 (o' := 10) rfl (fe_t rfl)) ?_)
                    refine tl_want rfl rfl rfl (oj_val (y_ldb 0 Try.isAgg3 (fe_t rfl) rfl rfl) ?_)
                    refine tl_want rfl rfl rfl (oj_val (y_gtr (fe_t rfl) fe_c) ?_)
                    refine tl_want rfl rfl rfl (oj_val (y_pickf (fe_t rfl) (fe_t rfl)) ?_)
                    refine tl_step rfl (oj_val (y_pickt (fe_t rfl) (fe_t rfl)) ?_)
                    refine tl_step rfl (oj_val (y_assign (fe_t rfl)) ?_)
                    refine tl_nil ?_
                    apply tx_back1 (_)
                    · exact (cov_cons (by first | rfl | exact v_int (by omega) | exact v_bool (by simp [*])) (cov_nil))
                    · repeat (first | exact over_nil | refine over_put rfl ?_ | refine over_drop rfl ?_)
                    · exact fun w h => h.pick [0] _ rfl (by decide)
                    · refine ⟨fun h9 => ?_, fun h9 => ?_⟩ <;> first | omega | (simp only [decide_eq_true_eq, decide_eq_false_iff_not] at h9; omega) | exact absurd h9 (by decide)
            · try (exfalso; omega)
              all_goals
                have hP := hpt4 (by simpa using hq16)
                refine tl_skip rfl rfl rfl rfl ?_
                refine tl_skip rfl rfl rfl rfl ?_
                refine tl_skip rfl rfl rfl rfl ?_
                refine tl_skip rfl rfl rfl rfl ?_
                refine tl_skip rfl rfl rfl rfl ?_
                refine tl_skip rfl rfl rfl rfl ?_
                refine tl_skip rfl rfl rfl rfl ?_
                refine tl_skip rfl rfl rfl rfl ?_
                refine tl_step rfl (oj_val (y_pickf (fe_t rfl) fe_c) ?_)
                refine tl_step rfl (oj_val (y_assign (fe_t rfl)) ?_)
                refine tl_nil ?_
                apply tx_back1 (_)
                · exact (cov_cons (by first | rfl | exact v_int (by omega) | exact v_bool (by simp [*])) (cov_nil))
                · repeat (first | exact over_nil | refine over_put rfl ?_ | refine over_drop rfl ?_)
                · exact fun w h => h.pick [0] _ rfl (by decide)
                · refine ⟨fun h9 => ?_, fun h9 => ?_⟩ <;> first | omega | (simp only [decide_eq_true_eq, decide_eq_false_iff_not] at h9; omega) | exact absurd h9 (by decide)
          · intro p46 hp
            obtain ⟨hpt46, hpf46⟩ := hp
            refine tr_cond (fe_t rfl) (fun hq19 => ?_) (fun hq20 => ?_)
            · try (exfalso; omega)
              all_goals
                have hK46 := hpt46 hq19
                refine tr_seq ?_
                refine tr_region ?_
                refine tl_step rfl (oj_val (y_assign fe_c) ?_)
                refine tl_nil ?_
                refine tx_then ?_
                refine tr_ret ?_
                refine tx_in_ret ?_
                refine tx_then_ret ?_
                refine tx_ret (res1 Try.results20 (rok_t rfl)) (fun w' hS => ?_)
                have hw := wr_1 hK13 hK46
                exact ⟨by rw [hw], hS.pick [] _ rfl (by decide)⟩
            · try (exfalso; omega)
              all_goals
                have hK46 := hpf46 hq20
                refine tr_cut1 [59, 60, 61, 62, 63, 64, 65, 66, 67, 68, 69, 70, 71, 72, 73, 74, 75] (fun (p59 : Bool) => [(59, .bool p59)]) 0 (fun (p59 : Bool) => []) (fun (p59 : Bool) => (p59 = true → (65535 < h.ln ∨ ((h.pr = 6 ∨ h.pr = 17) ∧ h.ln < 24) ∨ h.ln < 20)) ∧ (p59 = false → ¬ (65535 < h.ln ∨ ((h.pr = 6 ∨ h.pr = 17) ∧ h.ln < 24) ∨ h.ln < 20))) ?_ ?_
                · refine tr_region ?_
                  refine tl_step rfl (oj_val (y_fieldAddr (td := 3) Try.underlying38 rfl rfl Try.sizeOf3 (o' := 11) rfl (fe_t rfl)) ?_)
                  refine tl_step rfl (oj_val (y_ldb 0 Try.isAgg3 (fe_t rfl) rfl rfl) ?_)
                  refine tl_step rfl (oj_val (y_gtr (fe_t rfl) fe_c) ?_)
                  refine tl_step rfl (oj_val (y_move (fe_t rfl)) ?_)
                  refine tl_splitp (d := 63) rfl (fun hq21 => ?_) (fun hq22 => ?_)
                  · try (exfalso; omega)
                    all_goals
                      refine tl_skip rfl rfl rfl rfl ?_
                      refine tl_skip rfl rfl rfl rfl ?_
                      refine tl_skip rfl rfl rfl rfl ?_
                      refine tl_skip rfl rfl rfl rfl ?_
                      refine tl_skip rfl rfl rfl rfl ?_
                      refine tl_skip rfl rfl rfl rfl ?_
                      refine tl_step rfl (oj_val (y_pickt (fe_t rfl) fe_c) ?_)
                      refine tl_step rfl (oj_val (y_move (fe_t rfl)) ?_)
                      refine tl_skip rfl rfl rfl rfl ?_
                      refine tl_skip rfl rfl rfl rfl ?_
                      refine tl_skip rfl rfl rfl rfl ?_
                      refine tl_step rfl (oj_val (y_pickt (fe_t rfl) fe_c) ?_)
                      refine tl_step rfl (oj_val (y_assign (fe_t rfl)) ?_)
                      refine tl_nil ?_
                      apply tx_back1 (_)
                      · exact (cov_cons (by first | rfl | exact v_int (by omega) | exact v_bool (by simp [*])) (cov_nil))
                      · repeat (first | exact over_nil | refine over_put rfl ?_ | refine over_drop rfl ?_)
                      · exact fun w h => h.pick [0] _ rfl (by decide)
                      · refine ⟨fun h9 => ?_, fun h9 => ?_⟩ <;> first | omega | (simp only [decide_eq_true_eq, decide_eq_false_iff_not] at h9; omega) | exact absurd h9 (by decide)
                  · try (exfalso; omega)
                    all_goals
                      refine tl_want rfl rfl rfl (oj_val (y_move (fe_t rfl)) ?_)
                      refine tl_want rfl rfl rfl (oj_val (y_move (fe_t rfl)) ?_)
                      refine tl_split (d := 65) rfl (fun hq23 => ?_) (fun hq24 => ?_)
                      · try (exfalso; omega)
                        all_goals
                          have hP := hpt4 (by simpa using hq23)
                          refine tl_want rfl rfl rfl (oj_val (y_fieldAddr (td := 3) Try.underlying38 rfl rfl Try.sizeOf3 (o' := 11) rfl (fe_t rfl)) ?_)
                          refine tl_want rfl rfl rfl (oj_val (y_ldb 0 Try.isAgg3 (fe_t rfl) rfl rfl) ?_)
                          refine tl_want rfl rfl rfl (oj_val (y_lss (fe_t rfl) fe_c) ?_)
                          refine tl_want rfl rfl rfl (oj_val (y_pickt (fe_t rfl) (fe_t rfl)) ?_)
                          refine tl_step rfl (oj_val (y_pickf (fe_t rfl) (fe_t rfl)) ?_)
                          refine tl_step rfl (oj_val (y_move (fe_t rfl)) ?_)
                          refine tl_splitp (d := 71) rfl (fun hq25 => ?_) (fun hq26 => ?_)
                          · try (exfalso; omega)
                            all_goals
                              refine tl_skip rfl rfl rfl rfl ?_
                              refine tl_skip rfl rfl rfl rfl ?_
                              refine tl_skip rfl rfl rfl rfl ?_
                              refine tl_step rfl (oj_val (y_pickt (fe_t rfl) fe_c) ?_)
                              refine tl_step rfl (oj_val (y_assign (fe_t rfl)) ?_)
                              refine tl_nil ?_
                              apply tx_back1 (_)
                              · exact (cov_cons (by first | rfl | exact v_int (by omega) | exact v_bool (by simp [*])) (cov_nil))
                              · repeat (first | exact over_nil | refine over_put rfl ?_ | refine over_drop rfl ?_)
                              · exact fun w h => h.pick [0] _ rfl (by decide)
                              · refine ⟨fun h9 => ?_, fun h9 => ?_⟩ <;> first | omega | (simp only [decide_eq_true_eq, decide_eq_false_iff_not] at h9; omega) | exact absurd h9 (by decide)
                          · try (exfalso; omega)
                            all_goals
                              refine tl_want rfl rfl rfl (oj_val (y_fieldAddr (td := 3) Try.underlying38 rfl rfl Try.sizeOf3 (o' := 11) rfl (fe_t rfl)) ?_)
                              refine tl_want rfl rfl rfl (oj_val (y_ldb 0 Try.isAgg3 (fe_t rfl) rfl rfl) ?_)
                              refine tl_want rfl rfl rfl (oj_val (y_lss (fe_t rfl) fe_c) ?_)
                              refine tl_step rfl (oj_val (y_pickf (fe_t rfl) (fe_t rfl)) ?_)
                              refine tl_step rfl (oj_val (y_assign (fe_t rfl)) ?_)
                              refine tl_nil ?_
                              apply tx_back1 (_)
                              · exact (cov_cons (by first | rfl | exact v_int (by omega) | exact v_bool (by simp [*])) (cov_nil))
                              · repeat (first | exact over_nil | refine over_put rfl ?_ | refine over_drop rfl ?_)
                              · exact fun w h => h.pick [0] _ rfl (by decide)
                              · refine ⟨fun h9 => ?_, fun h9 => ?_⟩ <;> first | omega | (simp only [decide_eq_true_eq, decide_eq_false_iff_not] at h9; omega) | exact absurd h9 (by decide)
                      · try (exfalso; omega)
                        all_goals
                          have hP := hpf4 (by simpa using hq24)
                          refine tl_skip rfl rfl rfl rfl ?_
                          refine tl_skip rfl rfl rfl rfl ?_
                          refine tl_skip rfl rfl rfl rfl ?_
                          refine tl_want rfl rfl rfl (oj_val (y_pickf (fe_t rfl) fe_c) ?_)
                          refine tl_step rfl (oj_val (y_pickf (fe_t rfl) (fe_t rfl)) ?_)
                          refine tl_step rfl (oj_val (y_move (fe_t rfl)) ?_)
                          refine tl_want rfl rfl rfl (oj_val (y_fieldAddr (td := 3) Try.underlying38 rfl rfl Try.sizeOf3 (o' := 11) rfl (fe_t rfl)) ?_)
                          refine tl_want rfl rfl rfl (oj_val (y_ldb 0 Try.isAgg3 (fe_t rfl) rfl rfl) ?_)
                          refine tl_want rfl rfl rfl (oj_val (y_lss (fe_t rfl) fe_c) ?_)
                          refine tl_step rfl (oj_val (y_pickf (fe_t rfl) (fe_t rfl)) ?_)
                          refine tl_step rfl (oj_val (y_assign (fe_t rfl)) ?_)
                          refine tl_nil ?_
                          apply tx_back1 (_)
                          · exact (cov_cons (by first | rfl | exact v_int (by omega) | exact v_bool (by simp [*])) (cov_nil))
                          · repeat (first | exact over_nil | refine over_put rfl ?_ | refine over_drop rfl ?_)
                          · exact fun w h => h.pick [0] _ rfl (by decide)
                          · refine ⟨fun h9 => ?_, fun h9 => ?_⟩ <;> first | omega | (simp only [decide_eq_true_eq, decide_eq_false_iff_not] at h9; omega) | exact absurd h9 (by decide)
                · intro p59 hp
                  obtain ⟨hpt59, hpf59⟩ := hp
                  refine tr_cond (fe_t rfl) (fun hq27 => ?_) (fun hq28 => ?_)
                  · try (exfalso; omega)
                    all_goals
                      have hK59 := hpt59 hq27
                      refine tr_seq ?_
                      refine tr_region ?_
                      refine tl_step rfl (oj_val (y_assign fe_c) ?_)
                      refine tl_nil ?_
                      refine tx_then ?_
                      refine tr_ret ?_
                      refine tx_in_ret ?_
                      refine tx_then_ret ?_
                      refine tx_ret (res1 Try.results20 (rok_t rfl)) (fun w' hS => ?_)
                      have hw := wr_l hK13 hK46 hK59
                      exact ⟨by rw [hw], hS.pick [] _ rfl (by decide)⟩
                  · try (exfalso; omega)
                    all_goals
                      have hK59 := hpf59 hq28
                      refine tr_skip ?_
                      refine tx_in ?_
                      refine tx_then ?_
                      refine tr_seq ?_
                      refine tr_region ?_
                      refine tl_step rfl (oj_val (y_assign fe_c) ?_)
                      refine tl_nil ?_
                      refine tx_then ?_
                      refine tr_ret ?_
                      refine tx_ret (res1 Try.results20 (rok_t rfl)) (fun w' hS => ?_)
                      have hw := wr_0 hK13 hK46 hK59
                      exact ⟨by rw [hw], hS.pick [] _ rfl (by decide)⟩

set_option maxRecDepth 100000 in
set_option maxHeartbeats 4000000 in
theorem ewrongE (h : Hd) (w : World) :
    Calls Try.prog 21 #[.agg #[.int .u8 h.s0, .int .u8 h.s1, .int .u8 h.s2, .int .u8 h.s3, .int .u8 h.d0, .int .u8 h.d1, .int .u8 h.d2, .int .u8 h.d3, (.int .i64 h.pr), (.int .i64 h.sp), (.int .i64 h.dp), (.int .i64 h.ln), (.int .i64 h.mr)]] w fun e w' => e = .returned (.int .i64 (wr h)) ∧ St w w' [] := by
  refine calls_tr Try.func21 Try.ntmps21 rfl rfl (St.refl _) ?_
  refine tr_seq ?_
  refine tr_region ?_
  refine tl_step rfl (oj_box (fe_t rfl) (fun hb => ?_))
  refine tl_step rfl (oj_val (y_assign fe_c) ?_)
  refine tl_nil ?_
  refine tx_then ?_
  refine tr_seq ?_
  refine tr_cut1 [4, 5, 6, 7, 8, 9, 10, 11, 12, 13, 14, 15, 16, 17, 18, 19, 20, 21, 22, 23, 24, 25, 26, 27, 28, 29, 30, 31, 32, 33, 34, 35, 36, 37] (fun (p37 : Bool) => [(37, .bool p37)]) 0 (fun (p37 : Bool) => []) (fun (p37 : Bool) => (p37 = true → (h.pr < 0 ∨ 255 < h.pr ∨ h.mr < 0 ∨ 63 < h.mr ∨ h.sp < 0 ∨ 65535 < h.sp ∨ h.dp < 0 ∨ 65535 < h.dp)) ∧ (p37 = false → ¬ (h.pr < 0 ∨ 255 < h.pr ∨ h.mr < 0 ∨ 63 < h.mr ∨ h.sp < 0 ∨ 65535 < h.sp ∨ h.dp < 0 ∨ 65535 < h.dp))) ?_ ?_
  · refine tr_region ?_
    refine tl_step rfl (oj_val (y_fieldAddr (td := 3) Try.underlying38 rfl rfl Try.sizeOf3 (o' := 8) rfl (fe_t rfl)) ?_)
    refine tl_step rfl (oj_val (y_ldb 0 Try.isAgg3 (fe_t rfl) rfl rfl) ?_)
    refine tl_step rfl (oj_val (y_lss (fe_t rfl) fe_c) ?_)
    refine tl_step rfl (oj_val (y_move (fe_t rfl)) ?_)
    refine tl_splitp (d := 7) rfl (fun hq1 => ?_) (fun hq2 => ?_)
    · try (exfalso; omega)
      all_goals
        refine tl_skip rfl rfl rfl rfl ?_
        refine tl_skip rfl rfl rfl rfl ?_
        refine tl_skip rfl rfl rfl rfl ?_
        refine tl_step rfl (oj_val (y_pickt (fe_t rfl) fe_c) ?_)
        refine tl_step rfl (oj_val (y_move (fe_t rfl)) ?_)
        refine tl_skip rfl rfl rfl rfl ?_
        refine tl_skip rfl rfl rfl rfl ?_
        refine tl_skip rfl rfl rfl rfl ?_
        refine tl_step rfl (oj_val (y_pickt (fe_t rfl) fe_c) ?_)
        refine tl_step rfl (oj_val (y_move (fe_t rfl)) ?_)
        refine tl_skip rfl rfl rfl rfl ?_
        refine tl_skip rfl rfl rfl rfl ?_
        refine tl_skip rfl rfl rfl rfl ?_
        refine tl_step rfl (oj_val (y_pickt (fe_t rfl) fe_c) ?_)
        refine tl_step rfl (oj_val (y_move (fe_t rfl)) ?_)
        refine tl_skip rfl rfl rfl rfl ?_
        refine tl_skip rfl rfl rfl rfl ?_
        refine tl_skip rfl rfl rfl rfl ?_
        refine tl_skip rfl rfl rfl rfl ?_
        refine tl_skip rfl rfl rfl rfl ?_
        refine tl_skip rfl rfl rfl rfl ?_
        refine tl_step rfl (oj_val (y_pickt (fe_t rfl) fe_c) ?_)
        refine tl_step rfl (oj_val (y_move (fe_t rfl)) ?_)
        refine tl_skip rfl rfl rfl rfl ?_
        refine tl_skip rfl rfl rfl rfl ?_
        refine tl_skip rfl rfl rfl rfl ?_
        refine tl_skip rfl rfl rfl rfl ?_
        refine tl_skip rfl rfl rfl rfl ?_
        refine tl_skip rfl rfl rfl rfl ?_
        refine tl_step rfl (oj_val (y_pickt (fe_t rfl) fe_c) ?_)
        refine tl_nil ?_
        apply tx_back1 (_)
        · exact (cov_cons (by first | rfl | exact v_int (by omega) | exact v_bool (by simp [*])) (cov_nil))
        · repeat (first | exact over_nil | refine over_put rfl ?_ | refine over_drop rfl ?_)
        · exact fun w h => h.pick [0] _ rfl (by decide)
        · refine ⟨fun h9 => ?_, fun h9 => ?_⟩ <;> first | omega | (simp only [decide_eq_true_eq, decide_eq_false_iff_not] at h9; omega) | exact absurd h9 (by decide)
    · try (exfalso; omega)
      all_goals
        refine tl_want rfl rfl rfl (oj_val (y_fieldAddr (td := 3) Try.underlying38 rfl rfl Try.sizeOf3 (o' := 8) rfl (fe_t rfl)) ?_)
        refine tl_want rfl rfl rfl (oj_val (y_ldb 0 Try.isAgg3 (fe_t rfl) rfl rfl) ?_)
        refine tl_want rfl rfl rfl (oj_val (y_gtr (fe_t rfl) fe_c) ?_)
        refine tl_step rfl (oj_val (y_pickf (fe_t rfl) (fe_t rfl)) ?_)
        refine tl_step rfl (oj_val (y_move (fe_t rfl)) ?_)
        refine tl_splitp (d := 12) rfl (fun hq3 => ?_) (fun hq4 => ?_)
        · try (exfalso; omega)
          all_goals
            refine tl_skip rfl rfl rfl rfl ?_
            refine tl_skip rfl rfl rfl rfl ?_
            refine tl_skip rfl rfl rfl rfl ?_
            refine tl_step rfl (oj_val (y_pickt (fe_t rfl) fe_c) ?_)
            refine tl_step rfl (oj_val (y_move (fe_t rfl)) ?_)
            refine tl_skip rfl rfl rfl rfl ?_
            refine tl_skip rfl rfl rfl rfl ?_
            refine tl_skip rfl rfl rfl rfl ?_
            refine tl_step rfl (oj_val (y_pickt (fe_t rfl) fe_c) ?_)
            refine tl_step rfl (oj_val (y_move (fe_t rfl)) ?_)
            refine tl_skip rfl rfl rfl rfl ?_
            refine tl_skip rfl rfl rfl rfl ?_
            refine tl_skip rfl rfl rfl rfl ?_
            refine tl_skip rfl rfl rfl rfl ?_
            refine tl_skip rfl rfl rfl rfl ?_
            refine tl_skip rfl rfl rfl rfl ?_
            refine tl_step rfl (oj_val (y_pickt (fe_t rfl) fe_c) ?_)
            refine tl_step rfl (oj_val (y_move (fe_t rfl)) ?_)
            refine tl_skip rfl rfl rfl rfl ?_
            refine tl_skip rfl rfl rfl rfl ?_
            refine tl_skip rfl rfl rfl rfl ?_
            refine tl_skip rfl rfl rfl rfl ?_
            refine tl_skip rfl rfl rfl rfl ?_
            refine tl_skip rfl rfl rfl rfl ?_
            refine tl_step rfl (oj_val (y_pickt (fe_t rfl) fe_c) ?_)
            refine tl_nil ?_
            apply tx_back1 (_)
            · exact (cov_cons (by first | rfl | exact v_int (by omega) | exact v_bool (by simp [*])) (cov_nil))
            · repeat (first | exact over_nil | refine over_put rfl ?_ | refine over_drop rfl ?_)
            · exact fun w h => h.pick [0] _ rfl (by decide)
            · refine ⟨fun h9 => ?_, fun h9 => ?_⟩ <;> first | omega | (simp only [decide_eq_true_eq, decide_eq_false_iff_not] at h9; omega) | exact absurd h9 (by decide)
        · try (exfalso; omega)
          all_goals
            refine tl_want rfl rfl rfl (oj_val (y_fieldAddr (td := 3) Try.underlying38 rfl rfl Try.sizeOf3 (o' := 12) rfl (fe_t rfl)) ?_)
            refine tl_want rfl rfl rfl (oj_val (y_ldb 0 Try.isAgg3 (fe_t rfl) rfl rfl) ?_)
            refine tl_want rfl rfl rfl (oj_val (y_lss (fe_t rfl) fe_c) ?_)
            refine tl_step rfl (oj_val (y_pickf (fe_t rfl) (fe_t rfl)) ?_)
            refine tl_step rfl (oj_val (y_move (fe_t rfl)) ?_)
            refine tl_splitp (d := 17) rfl (fun hq5 => ?_) (fun hq6 => ?_)
            · try (exfalso; omega)
              all_goals
                refine tl_skip rfl rfl rfl rfl ?_
                refine tl_skip rfl rfl rfl rfl ?_
                refine tl_skip rfl rfl rfl rfl ?_
                refine tl_step rfl (oj_val (y_pickt (fe_t rfl) fe_c) ?_)
                refine tl_step rfl (oj_val (y_move (fe_t rfl)) ?_)
                refine tl_skip rfl rfl rfl rfl ?_
                refine tl_skip rfl rfl rfl rfl ?_
                refine tl_skip rfl rfl rfl rfl ?_
                refine tl_skip rfl rfl rfl rfl ?_
                refine tl_skip rfl rfl rfl rfl ?_
                refine tl_skip rfl rfl rfl rfl ?_
                refine tl_step rfl (oj_val (y_pickt (fe_t rfl) fe_c) ?_)
                refine tl_step rfl (oj_val (y_move (fe_t rfl)) ?_)
                refine tl_skip rfl rfl rfl rfl ?_
                refine tl_skip rfl rfl rfl rfl ?_
                refine tl_skip rfl rfl rfl rfl ?_
                refine tl_skip rfl rfl rfl rfl ?_
                refine tl_skip rfl rfl rfl rfl ?_
                refine tl_skip rfl rfl rfl rfl ?_
                refine tl_step rfl (oj_val (y_pickt (fe_t rfl) fe_c) ?_)
                refine tl_nil ?_
                apply tx_back1 (_)
                · exact (cov_cons (by first | rfl | exact v_int (by omega) | exact v_bool (by simp [*])) (cov_nil))
                · repeat (first | exact over_nil | refine over_put rfl ?_ | refine over_drop rfl ?_)
                · exact fun w h => h.pick [0] _ rfl (by decide)
                · refine ⟨fun h9 => ?_, fun h9 => ?_⟩ <;> first | omega | (simp only [decide_eq_true_eq, decide_eq_false_iff_not] at h9; omega) | exact absurd h9 (by decide)
            · try (exfalso; omega)
              all_goals
                refine tl_want rfl rfl rfl (oj_val (y_fieldAddr (td := 3) Try.underlying38 rfl rfl Try.sizeOf3 (o' := 12) rfl (fe_t rfl)) ?_)
                refine tl_want rfl rfl rfl (oj_val (y_ldb 0 Try.isAgg3 (fe_t rfl) rfl rfl) ?_)
                refine tl_want rfl rfl rfl (oj_val (y_gtr (fe_t rfl) fe_c) ?_)
                refine tl_step rfl (oj_val (y_pickf (fe_t rfl) (fe_t rfl)) ?_)
                refine tl_step rfl (oj_val (y_move (fe_t rfl)) ?_)
                refine tl_splitp (d := 22) rfl (fun hq7 => ?_) (fun hq8 => ?_)
                · try (exfalso; omega)
                  all_goals
                    refine tl_skip rfl rfl rfl rfl ?_
                    refine tl_skip rfl rfl rfl rfl ?_
                    refine tl_skip rfl rfl rfl rfl ?_
                    refine tl_skip rfl rfl rfl rfl ?_
                    refine tl_skip rfl rfl rfl rfl ?_
                    refine tl_skip rfl rfl rfl rfl ?_
                    refine tl_step rfl (oj_val (y_pickt (fe_t rfl) fe_c) ?_)
                    refine tl_step rfl (oj_val (y_move (fe_t rfl)) ?_)
                    refine tl_skip rfl rfl rfl rfl ?_
                    refine tl_skip rfl rfl rfl rfl ?_
                    refine tl_skip rfl rfl rfl rfl ?_
                    refine tl_skip rfl rfl rfl rfl ?_
                    refine tl_skip rfl rfl rfl rfl ?_
                    refine tl_skip rfl rfl rfl rfl ?_
                    refine tl_step rfl (oj_val (y_pickt (fe_t rfl) fe_c) ?_)
                    refine tl_nil ?_
                    apply tx_back1 (_)
                    · exact (cov_cons (by first | rfl | exact v_int (by omega) | exact v_bool (by simp [*])) (cov_nil))
                    · repeat (first | exact over_nil | refine over_put rfl ?_ | refine over_drop rfl ?_)
                    · exact fun w h => h.pick [0] _ rfl (by decide)
                    · refine ⟨fun h9 => ?_, fun h9 => ?_⟩ <;> first | omega | (simp only [decide_eq_true_eq, decide_eq_false_iff_not] at h9; omega) | exact absurd h9 (by decide)
                · try (exfalso; omega)
                  all_goals
                    refine tl_want rfl rfl rfl (oj_val (y_fieldAddr (td := 3) Try.underlying38 rfl rfl Try.sizeOf3 (o' := 9) rfl (fe_t rfl)) ?_)
                    refine tl_want rfl rfl rfl (oj_val (y_ldb 0 Try.isAgg3 (fe_t rfl) rfl rfl) ?_)
                    refine tl_want rfl rfl rfl (oj_val (y_fieldAddr (td := 3) Try.underlying38 rfl rfl Try.sizeOf3 (o' := 10) rfl (fe_t rfl)) ?_)
                    refine tl_want rfl rfl rfl (oj_val (y_ldb 0 Try.isAgg3 (fe_t rfl) rfl rfl) ?_)
                    refine tl_want rfl rfl rfl (oj_val (y_min (fe_t rfl) (fe_t rfl)) ?_)
                    refine tl_want rfl rfl rfl (oj_val (y_lss (fe_t rfl) fe_c) ?_)
                    refine tl_step rfl (oj_val (y_pickf (fe_t rfl) (fe_t rfl)) ?_)
                    refine tl_step rfl (oj_val (y_move (fe_t rfl)) ?_)
                    refine tl_splitp (d := 30) rfl (fun hq9 => ?_) (fun hq10 => ?_)
                    · try (exfalso; omega)
                      all_goals
                        refine tl_skip rfl rfl rfl rfl ?_
                        refine tl_skip rfl rfl rfl rfl ?_
                        refine tl_skip rfl rfl rfl rfl ?_
                        refine tl_skip rfl rfl rfl rfl ?_
                        refine tl_skip rfl rfl rfl rfl ?_
                        refine tl_skip rfl rfl rfl rfl ?_
                        refine tl_step rfl (oj_val (y_pickt (fe_t rfl) fe_c) ?_)
                        refine tl_nil ?_
                        apply tx_back1 (_)
                        · exact (cov_cons (by first | rfl | exact v_int (by omega) | exact v_bool (by simp [*])) (cov_nil))
                        · repeat (first | exact over_nil | refine over_put rfl ?_ | refine over_drop rfl ?_)
                        · exact fun w h => h.pick [0] _ rfl (by decide)
                        · refine ⟨fun h9 => ?_, fun h9 => ?_⟩ <;> first | omega | (simp only [decide_eq_true_eq, decide_eq_false_iff_not] at h9; omega) | exact absurd h9 (by decide)
                    · try (exfalso; omega)
                      all_goals
                        refine tl_want rfl rfl rfl (oj_val (y_fieldAddr (td := 3) Try.underlying38 rfl rfl Try.sizeOf3 (o' := 9) rfl (fe_t rfl)) ?_)
                        refine tl_want rfl rfl rfl (oj_val (y_ldb 0 Try.isAgg3 (fe_t rfl) rfl rfl) ?_)
                        refine tl_want rfl rfl rfl (oj_val (y_fieldAddr (td := 3) Try.underlying38 rfl rfl Try.sizeOf3 (o' := 10) rfl (fe_t rfl)) ?_)
                        refine tl_want rfl rfl rfl (oj_val (y_ldb 0 Try.isAgg3 (fe_t rfl) rfl rfl) ?_)
                        refine tl_want rfl rfl rfl (oj_val (y_max (fe_t rfl) (fe_t rfl)) ?_)
                        refine tl_want rfl rfl rfl (oj_val (y_gtr (fe_t rfl) fe_c) ?_)
                        refine tl_step rfl (oj_val (y_pickf (fe_t rfl) (fe_t rfl)) ?_)
                        refine tl_nil ?_
                        apply tx_back1 (_)
                        · exact (cov_cons (by first | rfl | exact v_int (by omega) | exact v_bool (by simp [*])) (cov_nil))
                        · repeat (first | exact over_nil | refine over_put rfl ?_ | refine over_drop rfl ?_)
                        · exact fun w h => h.pick [0] _ rfl (by decide)
                        · refine ⟨fun h9 => ?_, fun h9 => ?_⟩ <;> first | omega | (simp only [decide_eq_true_eq, decide_eq_false_iff_not] at h9; omega) | exact absurd h9 (by decide)
  · intro p37 hp
    obtain ⟨hpt37, hpf37⟩ := hp
    refine tr_cond (fe_t rfl) (fun hq11 => ?_) (fun hq12 => ?_)
    · try (exfalso; omega)
      all_goals
        have hK37 := hpt37 hq11
        refine tr_seq ?_
        refine tr_region ?_
        refine tl_step rfl (oj_val (y_assign fe_c) ?_)
        refine tl_nil ?_
        refine tx_then ?_
        refine tr_ret ?_
        refine tx_then_ret ?_
        refine tx_ret (res1 Try.results21 (rok_t rfl)) (fun w' hS => ?_)
        have hw := wr_2 hK37
        exact ⟨by rw [hw], hS.pick [] _ rfl (by decide)⟩
    · try (exfalso; omega)
      all_goals
        have hK37 := hpf37 hq12
        refine tr_skip ?_
        refine tx_then ?_
        refine tr_seq ?_
        refine tr_region ?_
        refine tl_step rfl (oj_val (y_assign fe_c) ?_)
        refine tl_nil ?_
        refine tx_then ?_
        refine tr_seq ?_
        refine tr_seq ?_
        refine tr_region ?_
        refine tl_step rfl (oj_val (y_fieldAddr (td := 3) Try.underlying38 rfl rfl Try.sizeOf3 (o' := 8) rfl (fe_t rfl)) ?_)
        refine tl_step rfl (oj_val (y_ldb 0 Try.isAgg3 (fe_t rfl) rfl rfl) ?_)
        refine tl_step rfl (oj_callv Try.call57 fe_f (fel_cons (fe_t rfl) fel_nil) (fun w' hS => eportsE h.pr w') ?_)
        refine tl_step rfl (oj_val (y_notp (fe_t rfl)) ?_)
        refine tl_nil ?_
        refine tx_then ?_
        refine tr_condp (fe_t rfl) (fun hq13 => ?_) (fun hq14 => ?_)
        · try (exfalso; omega)
          all_goals
            refine tr_seq ?_
            refine tr_seq ?_
            refine tr_region ?_
            refine tl_step rfl (oj_val (y_fieldAddr (td := 3) Try.underlying38 rfl rfl Try.sizeOf3 (o' := 9) rfl (fe_t rfl)) ?_)
            refine tl_step rfl (oj_val (y_ldb 0 Try.isAgg3 (fe_t rfl) rfl rfl) ?_)
            refine tl_step rfl (oj_val (y_fieldAddr (td := 3) Try.underlying38 rfl rfl Try.sizeOf3 (o' := 10) rfl (fe_t rfl)) ?_)
            refine tl_step rfl (oj_val (y_ldb 0 Try.isAgg3 (fe_t rfl) rfl rfl) ?_)
            refine tl_step rfl (oj_val (y_add (fe_t rfl) (fe_t rfl) (by omega)) ?_)
            refine tl_step rfl (oj_val (y_gtr (fe_t rfl) fe_c) ?_)
            refine tl_nil ?_
            refine tx_then ?_
            refine tr_condp (fe_t rfl) (fun hq15 => ?_) (fun hq16 => ?_)
            · try (exfalso; omega)
              all_goals
                refine tr_seq ?_
                refine tr_region ?_
                refine tl_step rfl (oj_val (y_assign fe_c) ?_)
                refine tl_nil ?_
                refine tx_then ?_
                refine tr_ret ?_
                refine tx_then_ret ?_
                refine tx_then_ret ?_
                refine tx_ret (res1 Try.results21 (rok_t rfl)) (fun w' hS => ?_)
                have hw := wr_1 hK37 (by omega)
                exact ⟨by rw [hw], hS.pick [] _ rfl (by decide)⟩
            · try (exfalso; omega)
              all_goals
                refine tr_skip ?_
                refine tx_then ?_
                refine tr_region ?_
                refine tl_step rfl (oj_val (y_assign fe_c) ?_)
                refine tl_nil ?_
                refine tx_then ?_
                refine tr_seq ?_
                refine tr_seq ?_
                refine tr_region ?_
                refine tl_step rfl (oj_val (y_fieldAddr (td := 3) Try.underlying38 rfl rfl Try.sizeOf3 (o' := 11) rfl (fe_t rfl)) ?_)
                refine tl_step rfl (oj_val (y_ldb 0 Try.isAgg3 (fe_t rfl) rfl rfl) ?_)
                refine tl_step rfl (oj_val (y_move (fe_t rfl)) ?_)
                refine tl_step rfl (oj_val (y_lss (fe_t rfl) (fe_t rfl)) ?_)
                refine tl_step rfl (oj_val (y_move (fe_t rfl)) ?_)
                refine tl_splitp (d := 52) rfl (fun hq17 => ?_) (fun hq18 => ?_)
                · try (exfalso; omega)
                  all_goals
                    refine tl_skip rfl rfl rfl rfl ?_
                    refine tl_skip rfl rfl rfl rfl ?_
                    refine tl_skip rfl rfl rfl rfl ?_
                    refine tl_step rfl (oj_val (y_pickt (fe_t rfl) fe_c) ?_)
                    refine tl_nil ?_
                    refine tx_then ?_
                    refine tr_condt (fe_t rfl) ?_
                    refine tr_seq ?_
                    refine tr_region ?_
                    refine tl_step rfl (oj_val (y_assign fe_c) ?_)
                    refine tl_nil ?_
                    refine tx_then ?_
                    refine tr_ret ?_
                    refine tx_then_ret ?_
                    refine tx_ret (res1 Try.results21 (rok_t rfl)) (fun w' hS => ?_)
                    have hw := wr_l hK37 (by omega) (by omega)
                    exact ⟨by rw [hw], hS.pick [] _ rfl (by decide)⟩
                · try (exfalso; omega)
                  all_goals
                    refine tl_want rfl rfl rfl (oj_val (y_fieldAddr (td := 3) Try.underlying38 rfl rfl Try.sizeOf3 (o' := 11) rfl (fe_t rfl)) ?_)
                    refine tl_want rfl rfl rfl (oj_val (y_ldb 0 Try.isAgg3 (fe_t rfl) rfl rfl) ?_)
                    refine tl_want rfl rfl rfl (oj_val (y_gtr (fe_t rfl) fe_c) ?_)
                    refine tl_step rfl (oj_val (y_pickf (fe_t rfl) (fe_t rfl)) ?_)
                    refine tl_nil ?_
                    refine tx_then ?_
                    refine tr_condp (fe_t rfl) (fun hq19 => ?_) (fun hq20 => ?_)
                    · try (exfalso; omega)
                      all_goals
                        refine tr_seq ?_
                        refine tr_region ?_
                        refine tl_step rfl (oj_val (y_assign fe_c) ?_)
                        refine tl_nil ?_
                        refine tx_then ?_
                        refine tr_ret ?_
                        refine tx_then_ret ?_
                        refine tx_ret (res1 Try.results21 (rok_t rfl)) (fun w' hS => ?_)
                        have hw := wr_l hK37 (by omega) (by omega)
                        exact ⟨by rw [hw], hS.pick [] _ rfl (by decide)⟩
                    · try (exfalso; omega)
                      all_goals
                        refine tr_skip ?_
                        refine tx_then ?_
                        refine tr_seq ?_
                        refine tr_region ?_
                        refine tl_step rfl (oj_val (y_assign fe_c) ?_)
                        refine tl_nil ?_
                        refine tx_then ?_
                        refine tr_ret ?_
                        refine tx_ret (res1 Try.results21 (rok_t rfl)) (fun w' hS => ?_)
                        have hw := wr_0 hK37 (by omega) (by omega)
                        exact ⟨by rw [hw], hS.pick [] _ rfl (by decide)⟩
        · try (exfalso; omega)
          all_goals
            refine tr_skip ?_
            refine tx_then ?_
            refine tr_seq ?_
            refine tr_seq ?_
            refine tr_region ?_
            refine tl_step rfl (oj_val (y_fieldAddr (td := 3) Try.underlying38 rfl rfl Try.sizeOf3 (o' := 11) rfl (fe_t rfl)) ?_)
            refine tl_step rfl (oj_val (y_ldb 0 Try.isAgg3 (fe_t rfl) rfl rfl) ?_)
            refine tl_step rfl (oj_val (y_move (fe_t rfl)) ?_)
            refine tl_step rfl (oj_val (y_lss (fe_t rfl) (fe_t rfl)) ?_)
            refine tl_step rfl (oj_val (y_move (fe_t rfl)) ?_)
            refine tl_splitp (d := 52) rfl (fun hq21 => ?_) (fun hq22 => ?_)
            · try (exfalso; omega)
              all_goals
                refine tl_skip rfl rfl rfl rfl ?_
                refine tl_skip rfl rfl rfl rfl ?_
                refine tl_skip rfl rfl rfl rfl ?_
                refine tl_step rfl (oj_val (y_pickt (fe_t rfl) fe_c) ?_)
                refine tl_nil ?_
                refine tx_then ?_
                refine tr_condt (fe_t rfl) ?_
                refine tr_seq ?_
                refine tr_region ?_
                refine tl_step rfl (oj_val (y_assign fe_c) ?_)
                refine tl_nil ?_
                refine tx_then ?_
                refine tr_ret ?_
                refine tx_then_ret ?_
                refine tx_ret (res1 Try.results21 (rok_t rfl)) (fun w' hS => ?_)
                have hw := wr_l hK37 (by omega) (by omega)
                exact ⟨by rw [hw], hS.pick [] _ rfl (by decide)⟩
            · try (exfalso; omega)
              all_goals
                refine tl_want rfl rfl rfl (oj_val (y_fieldAddr (td := 3) Try.underlying38 rfl rfl Try.sizeOf3 (o' := 11) rfl (fe_t rfl)) ?_)
                refine tl_want rfl rfl rfl (oj_val (y_ldb 0 Try.isAgg3 (fe_t rfl) rfl rfl) ?_)
                refine tl_want rfl rfl rfl (oj_val (y_gtr (fe_t rfl) fe_c) ?_)
                refine tl_step rfl (oj_val (y_pickf (fe_t rfl) (fe_t rfl)) ?_)
                refine tl_nil ?_
                refine tx_then ?_
                refine tr_condp (fe_t rfl) (fun hq23 => ?_) (fun hq24 => ?_)
                · try (exfalso; omega)
                  all_goals
                    refine tr_seq ?_
                    refine tr_region ?_
                    refine tl_step rfl (oj_val (y_assign fe_c) ?_)
                    refine tl_nil ?_
                    refine tx_then ?_
                    refine tr_ret ?_
                    refine tx_then_ret ?_
                    refine tx_ret (res1 Try.results21 (rok_t rfl)) (fun w' hS => ?_)
                    have hw := wr_l hK37 (by omega) (by omega)
                    exact ⟨by rw [hw], hS.pick [] _ rfl (by decide)⟩
                · try (exfalso; omega)
                  all_goals
                    refine tr_skip ?_
                    refine tx_then ?_
                    refine tr_seq ?_
                    refine tr_region ?_
                    refine tl_step rfl (oj_val (y_assign fe_c) ?_)
                    refine tl_nil ?_
                    refine tx_then ?_
                    refine tr_ret ?_
                    refine tx_ret (res1 Try.results21 (rok_t rfl)) (fun w' hS => ?_)
                    have hw := wr_0 hK37 (by omega) (by omega)
                    exact ⟨by rw [hw], hS.pick [] _ rfl (by decide)⟩

end Go.Proofs.Ytpknjfeiiaopgaa.Head
