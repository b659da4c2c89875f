/- edf.Tight, STight. -/
import Derived.Test.YtdfjeoifeladfaaEdfB
import Derived.Test.YtdfjeoifeladfaaEdfC
namespace Go.Proofs.Ytdfjeoifeladfaa.Edf
open Go.RowKit Go.Proofs.Ytdfjeoifeladfaa.E

set_option maxRecDepth 100000 in
set_option maxHeartbeats 1000000 in
theorem tight_bad (A : Option Addr) (n c : Nat) (l : List J) (w : World) (hr : Rd w A (l.flatMap cj)) (hn : l.length = n) (hm : n ≤ 140737488355328) (hw : ¬ wrongOf l = 0) :
    Calls Try.prog 50 #[.slice A n c] w fun e w' => e = .returned (.tuple #[.agg #[(.int .i64 0), (.int .i64 0)], .bool false, (.int .i64 (wrongOf l))]) ∧ St w w' [] := by
  refine calls_tr Try.func50 Try.ntmps50 rfl rfl (St.refl _) ?_
  refine tr_seq ?_
  refine tr_region ?_
  refine tl_step rfl (oj_alloc Try.zeroValue94 (fun rb => ?_))
  refine tl_step rfl (oj_val (y_assign fe_c) ?_)
  refine tl_step rfl (oj_val (y_assign fe_c) ?_)
  refine tl_nil ?_
  refine tx_then ?_
  refine tr_seq ?_
  refine tr_seq ?_
  refine tr_region ?_
  refine tl_step rfl (oj_val (y_move (fe_t rfl)) ?_)
  refine tl_step rfl (oj_callv Try.call52 fe_f (fel_cons (fe_t rfl) fel_nil) (fun w' hS => wrongE A n c l w' (Rd.below hr hS.below) hn hm) ?_)
  refine tl_step rfl (oj_val (y_assign (fe_t rfl)) ?_)
  refine tl_nil ?_
  refine tx_then ?_
  refine tr_seq ?_
  refine tr_region ?_
  refine tl_step rfl (oj_val (y_move (fe_t rfl)) ?_)
  refine tl_step rfl (oj_val (y_neq (fe_t rfl) fe_c) ?_)
  refine tl_nil ?_
  refine tx_then ?_
  refine tr_condp (fe_t rfl) (fun hq1 => ?_) (fun hq2 => ?_)
  · try (exfalso; omega)
    all_goals
      refine tr_seq ?_
      refine tr_region ?_
      refine tl_step rfl (oj_val (y_build (is := []) (vs := []) (cs := [.int .i64 0, .int .i64 0]) rfl fel_nil (by kernel_rfl)) ?_)
      refine tl_step rfl (oj_val (y_move (fe_t rfl)) ?_)
      refine tl_step rfl (oj_storeW 0 Try.sizeOf94 (fe_t rfl) (fe_t rfl) rfl rfl rfl rfl rfl (?_))
      refine tl_step rfl (oj_val (y_assign fe_c) ?_)
      refine tl_step rfl (oj_val (y_assign (fe_t rfl)) ?_)
      refine tl_nil ?_
      refine tx_then ?_
      refine tr_ret ?_
      refine tx_then_ret ?_
      refine tx_ret (res3 Try.results50 (rok_b 0 Try.isAgg94 Try.sizeOf94 rfl rfl rfl) (rok_t rfl) (rok_t rfl)) (fun w' hS => ?_)
      exact ⟨rfl, hS.pick [] _ rfl (by decide)⟩
  · exact absurd hw (by simpa using hq2)

set_option maxRecDepth 100000 in
set_option maxHeartbeats 4000000 in
theorem tight_ok (A : Option Addr) (n c : Nat) (l : List J) (w : World) (hr : Rd w A (l.flatMap cj)) (hn : l.length = n) (hm : n ≤ 140737488355328) (hw : wrongOf l = 0) (hl : n ≤ 400) (hgd : ∀ k, k < n → 0 ≤ jf l k ∧ jf l k ≤ jb l k ∧ jb l k ≤ 1000) :
    Calls Try.prog 50 #[.slice A n c] w fun e w' => e = .returned (.tuple #[.agg #[(.int .i64 (((scan l n n).getD (0, 0)).1)), (.int .i64 (((scan l n n).getD (0, 0)).2))], .bool (scan l n n).isSome, (.int .i64 0)]) ∧ St w w' [] := by
  refine calls_tr Try.func50 Try.ntmps50 rfl rfl (St.refl _) ?_
  refine tr_seq ?_
  refine tr_region ?_
  refine tl_step rfl (oj_alloc Try.zeroValue94 (fun rb => ?_))
  refine tl_step rfl (oj_val (y_assign fe_c) ?_)
  refine tl_step rfl (oj_val (y_assign fe_c) ?_)
  refine tl_nil ?_
  refine tx_then ?_
  refine tr_seq ?_
  refine tr_seq ?_
  refine tr_region ?_
  refine tl_step rfl (oj_val (y_move (fe_t rfl)) ?_)
  refine tl_step rfl (oj_callv Try.call52 fe_f (fel_cons (fe_t rfl) fel_nil) (fun w' hS => wrongE A n c l w' (Rd.below hr hS.below) hn hm) ?_)
  refine tl_step rfl (oj_val (y_assign (fe_t rfl)) ?_)
  refine tl_nil ?_
  refine tx_then ?_
  refine tr_seq ?_
  refine tr_region ?_
  refine tl_step rfl (oj_val (y_move (fe_t rfl)) ?_)
  refine tl_step rfl (oj_val (y_neq (fe_t rfl) fe_c) ?_)
  refine tl_nil ?_
  refine tx_then ?_
  refine tr_condp (fe_t rfl) (fun hq1 => ?_) (fun hq2 => ?_)
  · exact absurd hw hq1
  · try (exfalso; omega)
    all_goals
      refine tr_skip ?_
      refine tx_then ?_
      refine tr_seq ?_
      refine tr_seq ?_
      refine tr_region ?_
      refine tl_step rfl (oj_val (y_move (fe_t rfl)) ?_)
      refine tl_step rfl (oj_val (y_len Try.underlying90 (fe_t rfl)) ?_)
      refine tl_step rfl (oj_val (y_move fe_c) ?_)
      refine tl_nil ?_
      refine tx_then ?_
      refine tr_block ?_
      refine tr_loop1 [3, 4, 7, 9, 10, 12, 21, 22, 23, 24, 25, 26, 27, 28, 29, 30, 31, 32, 33, 34, 35, 36, 37, 38, 39, 40, 41, 42, 43, 44, 45, 46, 47, 48, 49, 50, 51, 52, 53, 54, 55, 56, 57, 58, 59, 60, 61, 62, 63, 64, 65, 66] (fun (i : Nat) => [(21, .int .i64 (i : Int))]) 0 (fun (i : Nat) => []) (fun (i : Nat) => i ≤ n ∧ scan l n i = none) (fun (i : Nat) => n - i) (0) (cov_cons (by first | rfl | exact v_int (by omega) | exact v_bool (by simp [*])) (cov_nil)) (fun w h => h) ?_ ?_
      · try dsimp only
        exact ⟨by omega, rfl⟩
      intro i hp
      obtain ⟨hi, hsc⟩ := hp
      refine tr_seq ?_
      refine tr_region ?_
      refine tl_step rfl (oj_val (y_lss (fe_t rfl) (fe_t rfl)) ?_)
      refine tl_nil ?_
      refine tx_then ?_
      refine tr_seq ?_
      refine tr_condp (fe_t rfl) (fun hq3 => ?_) (fun hq4 => ?_)
      · try (exfalso; omega)
        all_goals
          refine tr_skip ?_
          refine tx_then ?_
          refine tr_seq ?_
          refine tr_block ?_
          refine tr_seq ?_
          refine tr_region ?_
          refine tl_step rfl (oj_val (y_index Try.underlying90 Try.sizeOf94 (fe_t rfl) (fe_t rfl) (rdl_out hr) (lenJ hn) (by decide) (by omega) rfl) ?_)
          refine tl_step rfl (oj_val (y_ldA (cs := [(.int .i64 (jf l i)), (.int .i64 (jb l i))]) Try.isAgg94 Try.sizeOf94 (fe_t rfl) (rdl_out hr) rfl (by decide) (getJ (by omega))) ?_)
          refine tl_step rfl (oj_alloc Try.zeroValue94 (fun ba => ?_))
          refine tl_step rfl (oj_storeW 0 Try.sizeOf94 (fe_t rfl) (fe_t rfl) rfl rfl rfl rfl rfl (?_))
          refine tl_nil ?_
          refine tx_then ?_
          refine tr_seq ?_
          have hgi := hgd i (by omega)
          refine tr_region ?_
          refine tl_step rfl (oj_val (y_move (fe_t rfl)) ?_)
          refine tl_step rfl (oj_val (y_len Try.underlying90 (fe_t rfl)) ?_)
          refine tl_step rfl (oj_val (y_move fe_c) ?_)
          refine tl_nil ?_
          refine tx_then ?_
          refine tr_block ?_
          refine tr_loop1 [3, 4, 9, 10, 12, 27, 28, 29, 30, 31, 32, 33, 34, 35, 36, 37, 38, 39, 40, 41, 42, 43, 44, 45, 46, 47, 48, 49, 50, 51, 52, 53, 54, 55, 56, 57, 58, 59, 60, 61, 62, 63, 64, 65] (fun (k : Nat) => [(27, .int .i64 (k : Int))]) 0 (fun (k : Nat) => []) (fun (k : Nat) => k ≤ n ∧ row l n i k = none) (fun (k : Nat) => n - k) (0) (cov_cons (by first | rfl | exact v_int (by omega) | exact v_bool (by simp [*])) (cov_nil)) (fun w h => h) ?_ ?_
          · try dsimp only
            exact ⟨by omega, rfl⟩
          intro k hp
          obtain ⟨hk, hrw⟩ := hp
          refine tr_seq ?_
          refine tr_region ?_
          refine tl_step rfl (oj_val (y_lss (fe_t rfl) (fe_t rfl)) ?_)
          refine tl_nil ?_
          refine tx_then ?_
          refine tr_seq ?_
          refine tr_condp (fe_t rfl) (fun hq5 => ?_) (fun hq6 => ?_)
          · try (exfalso; omega)
            all_goals
              refine tr_skip ?_
              refine tx_then ?_
              refine tr_seq ?_
              refine tr_block ?_
              refine tr_seq ?_
              refine tr_region ?_
              refine tl_step rfl (oj_val (y_index Try.underlying90 Try.sizeOf94 (fe_t rfl) (fe_t rfl) (rdl_out hr) (lenJ hn) (by decide) (by omega) rfl) ?_)
              refine tl_step rfl (oj_val (y_ldA (cs := [(.int .i64 (jf l k)), (.int .i64 (jb l k))]) Try.isAgg94 Try.sizeOf94 (fe_t rfl) (rdl_out hr) rfl (by decide) (getJ (by omega))) ?_)
              refine tl_step rfl (oj_alloc Try.zeroValue94 (fun bb => ?_))
              refine tl_step rfl (oj_storeW 0 Try.sizeOf94 (fe_t rfl) (fe_t rfl) rfl rfl rfl rfl rfl (?_))
              refine tl_nil ?_
              refine tx_then ?_
              refine tr_seq ?_
              have hgk := hgd k (by omega)
              refine tr_region ?_
              refine tl_step rfl (oj_val (y_assign fe_c) ?_)
              refine tl_nil ?_
              refine tx_then ?_
              refine tr_seq ?_
              refine tr_seq ?_
              refine tr_region ?_
              refine tl_step rfl (oj_val (y_move (fe_t rfl)) ?_)
              refine tl_step rfl (oj_val (y_len Try.underlying90 (fe_t rfl)) ?_)
              refine tl_step rfl (oj_val (y_move fe_c) ?_)
              refine tl_nil ?_
              refine tx_then ?_
              refine tr_block ?_
              refine tr_loop1 [10, 12, 33, 34, 35, 36, 37, 38, 39, 40, 41, 42, 43, 44, 45, 46, 47, 48, 49, 50, 51] (fun (j : Nat) => [(33, .int .i64 (j : Int)), (10, .int .i64 (cnt l (jf l i) (jb l k) j : Int))]) 0 (fun (j : Nat) => []) (fun (j : Nat) => j ≤ n) (fun (j : Nat) => n - j) (0) (cov_cons (by first | rfl | exact v_int (by omega) | exact v_bool (by simp [*])) (cov_cons (by first | rfl | exact v_int (by omega) | exact v_bool (by simp [*])) (cov_nil))) (fun w h => h) ?_ ?_
              · try dsimp only
                exact Nat.zero_le _
              intro j hp
              have hj := hp
              have hcl := cnt_le l (jf l i) (jb l k) j
              refine tr_seq ?_
              refine tr_region ?_
              refine tl_step rfl (oj_val (y_lss (fe_t rfl) (fe_t rfl)) ?_)
              refine tl_nil ?_
              refine tx_then ?_
              refine tr_seq ?_
              refine tr_condp (fe_t rfl) (fun hq7 => ?_) (fun hq8 => ?_)
              · try (exfalso; omega)
                all_goals
                  refine tr_skip ?_
                  refine tx_then ?_
                  refine tr_seq ?_
                  refine tr_block ?_
                  refine tr_seq ?_
                  refine tr_region ?_
                  refine tl_step rfl (oj_val (y_index Try.underlying90 Try.sizeOf94 (fe_t rfl) (fe_t rfl) (rdl_out hr) (lenJ hn) (by decide) (by omega) rfl) ?_)
                  refine tl_step rfl (oj_val (y_ldA (cs := [(.int .i64 (jf l j)), (.int .i64 (jb l j))]) Try.isAgg94 Try.sizeOf94 (fe_t rfl) (rdl_out hr) rfl (by decide) (getJ (by omega))) ?_)
                  refine tl_step rfl (oj_alloc Try.zeroValue94 (fun bj => ?_))
                  refine tl_step rfl (oj_storeW 0 Try.sizeOf94 (fe_t rfl) (fe_t rfl) rfl rfl rfl rfl rfl (?_))
                  refine tl_nil ?_
                  refine tx_then ?_
                  refine tr_seq ?_
                  refine tr_region ?_
                  refine tl_step rfl (oj_val (y_fieldAddr (td := 3) Try.underlying94 rfl rfl Try.sizeOf3 (o' := 0) rfl (fe_t rfl)) ?_)
                  refine tl_step rfl (oj_val (y_ldb 0 Try.isAgg3 (fe_t rfl) rfl rfl) ?_)
                  refine tl_step rfl (oj_val (y_fieldAddr (td := 3) Try.underlying94 rfl rfl Try.sizeOf3 (o' := 0) rfl (fe_t rfl)) ?_)
                  refine tl_step rfl (oj_val (y_ldb 2 Try.isAgg3 (fe_t rfl) rfl rfl) ?_)
                  refine tl_step rfl (oj_val (y_geq (fe_t rfl) (fe_t rfl)) ?_)
                  refine tl_step rfl (oj_val (y_move (fe_t rfl)) ?_)
                  refine tl_splitp (d := 42) rfl (fun hq9 => ?_) (fun hq10 => ?_)
                  · try (exfalso; omega)
                    all_goals
                      refine tl_want rfl rfl rfl (oj_val (y_fieldAddr (td := 3) Try.underlying94 rfl rfl Try.sizeOf3 (o' := 1) rfl (fe_t rfl)) ?_)
                      refine tl_want rfl rfl rfl (oj_val (y_ldb 0 Try.isAgg3 (fe_t rfl) rfl rfl) ?_)
                      refine tl_want rfl rfl rfl (oj_val (y_fieldAddr (td := 3) Try.underlying94 rfl rfl Try.sizeOf3 (o' := 1) rfl (fe_t rfl)) ?_)
                      refine tl_want rfl rfl rfl (oj_val (y_ldb 1 Try.isAgg3 (fe_t rfl) rfl rfl) ?_)
                      refine tl_want rfl rfl rfl (oj_val (y_leq (fe_t rfl) (fe_t rfl)) ?_)
                      refine tl_step rfl (oj_val (y_pickt (fe_t rfl) (fe_t rfl)) ?_)
                      refine tl_nil ?_
                      refine tx_then ?_
                      refine tr_condp (fe_t rfl) (fun hq11 => ?_) (fun hq12 => ?_)
                      · try (exfalso; omega)
                        all_goals
                          refine tr_region ?_
                          refine tl_step rfl (oj_val (y_move (fe_t rfl)) ?_)
                          refine tl_step rfl (oj_val (y_inc (fe_t rfl) fe_c (by omega)) ?_)
                          refine tl_step rfl (oj_val (y_assign (fe_t rfl)) ?_)
                          refine tl_nil ?_
                          refine tx_in ?_
                          refine tx_then ?_
                          first | have hct := cnt_t (l := l) (a := jf l i) (b := jb l k) (k := j) (by omega) | have hct := cnt_f (l := l) (a := jf l i) (b := jb l k) (k := j) (by omega)
                          refine tr_region ?_
                          refine tl_step rfl (oj_val (y_inc (fe_t rfl) fe_c (by omega)) ?_)
                          refine tl_step rfl (oj_val (y_move (fe_t rfl)) ?_)
                          refine tl_nil ?_
                          apply tx_back1 (j + 1)
                          · exact (cov_cons (by first | rfl | exact v_int (by omega) | exact v_bool (by simp [*])) (cov_cons (by first | rfl | exact v_int (by omega) | exact v_bool (by simp [*])) (cov_nil)))
                          · repeat (first | exact over_nil | refine over_put rfl ?_ | refine over_drop rfl ?_)
                          · exact fun w h => h.pick [1, 2, 3] _ rfl (by decide)
                          · exact ⟨by omega, by omega⟩
                      · try (exfalso; omega)
                        all_goals
                          refine tr_skip ?_
                          refine tx_in ?_
                          refine tx_then ?_
                          first | have hct := cnt_t (l := l) (a := jf l i) (b := jb l k) (k := j) (by omega) | have hct := cnt_f (l := l) (a := jf l i) (b := jb l k) (k := j) (by omega)
                          refine tr_region ?_
                          refine tl_step rfl (oj_val (y_inc (fe_t rfl) fe_c (by omega)) ?_)
                          refine tl_step rfl (oj_val (y_move (fe_t rfl)) ?_)
                          refine tl_nil ?_
                          apply tx_back1 (j + 1)
                          · exact (cov_cons (by first | rfl | exact v_int (by omega) | exact v_bool (by simp [*])) (cov_cons (by first | rfl | exact v_int (by omega) | exact v_bool (by simp [*])) (cov_nil)))
                          · repeat (first | exact over_nil | refine over_put rfl ?_ | refine over_drop rfl ?_)
                          · exact fun w h => h.pick [1, 2, 3] _ rfl (by decide)
                          · exact ⟨by omega, by omega⟩
                  · try (exfalso; omega)
                    all_goals
                      refine tl_skip rfl rfl rfl rfl ?_
                      refine tl_skip rfl rfl rfl rfl ?_
                      refine tl_skip rfl rfl rfl rfl ?_
                      refine tl_skip rfl rfl rfl rfl ?_
                      refine tl_skip rfl rfl rfl rfl ?_
                      refine tl_step rfl (oj_val (y_pickf (fe_t rfl) fe_c) ?_)
                      refine tl_nil ?_
                      refine tx_then ?_
                      refine tr_condf (fe_t rfl) ?_
                      refine tr_skip ?_
                      refine tx_in ?_
                      refine tx_then ?_
                      first | have hct := cnt_t (l := l) (a := jf l i) (b := jb l k) (k := j) (by omega) | have hct := cnt_f (l := l) (a := jf l i) (b := jb l k) (k := j) (by omega)
                      refine tr_region ?_
                      refine tl_step rfl (oj_val (y_inc (fe_t rfl) fe_c (by omega)) ?_)
                      refine tl_step rfl (oj_val (y_move (fe_t rfl)) ?_)
                      refine tl_nil ?_
                      apply tx_back1 (j + 1)
                      · exact (cov_cons (by first | rfl | exact v_int (by omega) | exact v_bool (by simp [*])) (cov_cons (by first | rfl | exact v_int (by omega) | exact v_bool (by simp [*])) (cov_nil)))
                      · repeat (first | exact over_nil | refine over_put rfl ?_ | refine over_drop rfl ?_)
                      · exact fun w h => h.pick [1, 2, 3] _ rfl (by decide)
                      · exact ⟨by omega, by omega⟩
              · try (exfalso; omega)
                all_goals
                  refine tr_exit ?_
                  refine tx_then_exit ?_
                  refine tx_then_exit ?_
                  refine tx_in_exit ?_
                  refine tx_then ?_
                  refine tr_seq ?_
                  obtain rfl : j = n := by omega
                  refine tr_region ?_
                  refine tl_step rfl (oj_val (y_move (fe_t rfl)) ?_)
                  refine tl_step rfl (oj_val (y_fieldAddr (td := 3) Try.underlying94 rfl rfl Try.sizeOf3 (o' := 1) rfl (fe_t rfl)) ?_)
                  refine tl_step rfl (oj_val (y_ldb 0 Try.isAgg3 (fe_t rfl) rfl rfl) ?_)
                  refine tl_step rfl (oj_val (y_fieldAddr (td := 3) Try.underlying94 rfl rfl Try.sizeOf3 (o' := 0) rfl (fe_t rfl)) ?_)
                  refine tl_step rfl (oj_val (y_ldb 1 Try.isAgg3 (fe_t rfl) rfl rfl) ?_)
                  refine tl_step rfl (oj_val (y_sub (fe_t rfl) (fe_t rfl) (by omega)) ?_)
                  refine tl_step rfl (oj_val (y_max (fe_t rfl) fe_c) ?_)
                  refine tl_step rfl (oj_val (y_gtr (fe_t rfl) (fe_t rfl)) ?_)
                  refine tl_nil ?_
                  refine tx_then ?_
                  refine tr_condp (fe_t rfl) (fun hq13 => ?_) (fun hq14 => ?_)
                  · try (exfalso; omega)
                    all_goals
                      refine tr_seq ?_
                      refine tr_region ?_
                      refine tl_step rfl (oj_val (y_fieldAddr (td := 3) Try.underlying94 rfl rfl Try.sizeOf3 (o' := 0) rfl (fe_t rfl)) ?_)
                      refine tl_step rfl (oj_val (y_ldb 1 Try.isAgg3 (fe_t rfl) rfl rfl) ?_)
                      refine tl_step rfl (oj_val (y_fieldAddr (td := 3) Try.underlying94 rfl rfl Try.sizeOf3 (o' := 1) rfl (fe_t rfl)) ?_)
                      refine tl_step rfl (oj_val (y_ldb 0 Try.isAgg3 (fe_t rfl) rfl rfl) ?_)
                      refine tl_step rfl (oj_val ((fun {u0 u1} hx hb => y_build (is := [0, 1]) (vs := [u0, u1]) (cs := [u0, u1]) rfl hx hb) (fel_cons (fe_t rfl) (fel_cons (fe_t rfl) fel_nil)) (by kernel_rfl)) ?_)
                      refine tl_step rfl (oj_storeW 2 Try.sizeOf94 (fe_t rfl) (fe_t rfl) rfl rfl rfl rfl rfl (?_))
                      refine tl_step rfl (oj_val (y_assign fe_c) ?_)
                      refine tl_step rfl (oj_val (y_assign fe_c) ?_)
                      refine tl_nil ?_
                      refine tx_then ?_
                      refine tr_ret ?_
                      refine tx_in_ret ?_
                      refine tx_then_ret ?_
                      refine tx_then_ret ?_
                      refine tx_in_ret ?_
                      refine tx_in_ret ?_
                      refine tx_then_ret ?_
                      refine tx_then_ret ?_
                      refine tx_in_ret ?_
                      refine tx_then_ret ?_
                      refine tx_ret (res3 Try.results50 (rok_b 2 Try.isAgg94 Try.sizeOf94 rfl rfl rfl) (rok_t rfl) (rok_t rfl)) (fun w' hS => ?_)
                      have hh := scan_hit hsc hrw ⟨by omega, by omega⟩ (by omega) (by omega)
                      exact ⟨by rw [hh]; rfl, hS.pick [] _ rfl (by decide)⟩
                  · try (exfalso; omega)
                    all_goals
                      refine tr_skip ?_
                      refine tx_in ?_
                      refine tx_then ?_
                      refine tr_region ?_
                      refine tl_step rfl (oj_val (y_inc (fe_t rfl) fe_c (by omega)) ?_)
                      refine tl_step rfl (oj_val (y_move (fe_t rfl)) ?_)
                      refine tl_nil ?_
                      apply tx_back1 (k + 1)
                      · exact (cov_cons (by first | rfl | exact v_int (by omega) | exact v_bool (by simp [*])) (cov_nil))
                      · repeat (first | exact over_nil | refine over_put rfl ?_ | refine over_drop rfl ?_)
                      · exact fun w h => h.pick [1, 2] _ rfl (by decide)
                      · exact ⟨⟨by omega, row_none hrw (fun hm => by have h1 := hm.1; have h2 := hm.2; omega)⟩, by omega⟩
          · try (exfalso; omega)
            all_goals
              refine tr_exit ?_
              refine tx_then_exit ?_
              refine tx_then_exit ?_
              refine tx_in_exit ?_
              refine tx_in ?_
              refine tx_then ?_
              refine tr_region ?_
              refine tl_step rfl (oj_val (y_inc (fe_t rfl) fe_c (by omega)) ?_)
              refine tl_step rfl (oj_val (y_move (fe_t rfl)) ?_)
              refine tl_nil ?_
              apply tx_back1 (i + 1)
              · exact (cov_cons (by first | rfl | exact v_int (by omega) | exact v_bool (by simp [*])) (cov_nil))
              · repeat (first | exact over_nil | refine over_put rfl ?_ | refine over_drop rfl ?_)
              · exact fun w h => h.pick [1] _ rfl (by decide)
              · obtain rfl : k = n := by omega
                exact ⟨⟨by omega, (scan_row hsc).trans hrw⟩, by omega⟩
      · try (exfalso; omega)
        all_goals
          refine tr_exit ?_
          refine tx_then_exit ?_
          refine tx_then_exit ?_
          refine tx_in_exit ?_
          refine tx_then ?_
          refine tr_seq ?_
          refine tr_region ?_
          refine tl_step rfl (oj_val (y_build (is := []) (vs := []) (cs := [.int .i64 0, .int .i64 0]) rfl fel_nil (by kernel_rfl)) ?_)
          refine tl_step rfl (oj_storeW 0 Try.sizeOf94 (fe_t rfl) (fe_t rfl) rfl rfl rfl rfl rfl (?_))
          refine tl_step rfl (oj_val (y_assign fe_c) ?_)
          refine tl_step rfl (oj_val (y_assign fe_c) ?_)
          refine tl_nil ?_
          refine tx_then ?_
          refine tr_ret ?_
          refine tx_ret (res3 Try.results50 (rok_b 0 Try.isAgg94 Try.sizeOf94 rfl rfl rfl) (rok_t rfl) (rok_t rfl)) (fun w' hS => ?_)
          obtain rfl : i = n := by omega
          have hh := hsc
          exact ⟨by rw [hh]; rfl, hS.pick [] _ rfl (by decide)⟩

/-- Is there too much between two moments? -/
def much (l : List J) (n : Nat) (a b : Int) : Bool := decide (b - a < (cnt l a b n : Int)) && decide (0 < (cnt l a b n : Int))
theorem much_iff {l : List J} {n i k : Nat} : much l n (jf l i) (jb l k) = true ↔ Much l n i k := by
  unfold much Much
  simp
set_option maxRecDepth 100000 in
set_option maxHeartbeats 2000000 in
theorem stightE (A : Option Addr) (n c : Nat) (l : List J) (w : World) (hr : Rd w A (l.flatMap cj)) (hn : l.length = n) (hm : n ≤ 140737488355328) (a b : Int) (ha : 0 ≤ a ∧ a ≤ 1000) (hb : 0 ≤ b ∧ b ≤ 1000) (hl : n ≤ 400) :
    Calls Try.prog 53 #[.slice A n c, (.int .i64 a), (.int .i64 b)] w fun e w' => e = .returned (.bool (much l n a b)) ∧ St w w' [] := by
  refine calls_tr Try.func53 Try.ntmps53 rfl rfl (St.refl _) ?_
  refine tr_seq ?_
  refine tr_region ?_
  refine tl_step rfl (oj_val (y_assign fe_c) ?_)
  refine tl_nil ?_
  refine tx_then ?_
  refine tr_seq ?_
  refine tr_region ?_
  refine tl_step rfl (oj_val (y_assign fe_c) ?_)
  refine tl_nil ?_
  refine tx_then ?_
  refine tr_seq ?_
  refine tr_seq ?_
  refine tr_region ?_
  refine tl_step rfl (oj_val (y_move (fe_t rfl)) ?_)
  refine tl_step rfl (oj_val (y_len Try.underlying90 (fe_t rfl)) ?_)
  refine tl_step rfl (oj_val (y_move fe_c) ?_)
  refine tl_nil ?_
  refine tx_then ?_
  refine tr_block ?_
  refine tr_loop1 [7, 9, 12, 13, 14, 15, 16, 17, 18, 19, 20, 21, 22, 23, 24, 25, 26, 27, 28] (fun (j : Nat) => [(12, .int .i64 (j : Int)), (7, .int .i64 (cnt l a b j : Int))]) 0 (fun (j : Nat) => []) (fun (j : Nat) => j ≤ n) (fun (j : Nat) => n - j) (0) (cov_cons (by first | rfl | exact v_int (by omega) | exact v_bool (by simp [*])) (cov_cons (by first | rfl | exact v_int (by omega) | exact v_bool (by simp [*])) (cov_nil))) (fun w h => h) ?_ ?_
  · try dsimp only
    exact Nat.zero_le _
  intro j hp
  have hj := hp
  have hcl := cnt_le l a b j
  refine tr_seq ?_
  refine tr_region ?_
  refine tl_step rfl (oj_val (y_lss (fe_t rfl) (fe_t rfl)) ?_)
  refine tl_nil ?_
  refine tx_then ?_
  refine tr_seq ?_
  refine tr_condp (fe_t rfl) (fun hq1 => ?_) (fun hq2 => ?_)
  · try (exfalso; omega)
    all_goals
      refine tr_skip ?_
      refine tx_then ?_
      refine tr_seq ?_
      refine tr_block ?_
      refine tr_seq ?_
      refine tr_region ?_
      refine tl_step rfl (oj_val (y_index Try.underlying90 Try.sizeOf94 (fe_t rfl) (fe_t rfl) (rdl_out hr) (lenJ hn) (by decide) (by omega) rfl) ?_)
      refine tl_step rfl (oj_val (y_ldA (cs := [(.int .i64 (jf l j)), (.int .i64 (jb l j))]) Try.isAgg94 Try.sizeOf94 (fe_t rfl) (rdl_out hr) rfl (by decide) (getJ (by omega))) ?_)
      refine tl_step rfl (oj_alloc Try.zeroValue94 (fun b1 => ?_))
      refine tl_step rfl (oj_storeW 0 Try.sizeOf94 (fe_t rfl) (fe_t rfl) rfl rfl rfl rfl rfl (?_))
      refine tl_nil ?_
      refine tx_then ?_
      refine tr_seq ?_
      refine tr_region ?_
      refine tl_step rfl (oj_val (y_move (fe_t rfl)) ?_)
      refine tl_step rfl (oj_val (y_fieldAddr (td := 3) Try.underlying94 rfl rfl Try.sizeOf3 (o' := 0) rfl (fe_t rfl)) ?_)
      refine tl_step rfl (oj_val (y_ldb 0 Try.isAgg3 (fe_t rfl) rfl rfl) ?_)
      refine tl_step rfl (oj_val (y_leq (fe_t rfl) (fe_t rfl)) ?_)
      refine tl_step rfl (oj_val (y_move (fe_t rfl)) ?_)
      refine tl_splitp (d := 20) rfl (fun hq3 => ?_) (fun hq4 => ?_)
      · try (exfalso; omega)
        all_goals
          refine tl_want rfl rfl rfl (oj_val (y_fieldAddr (td := 3) Try.underlying94 rfl rfl Try.sizeOf3 (o' := 1) rfl (fe_t rfl)) ?_)
          refine tl_want rfl rfl rfl (oj_val (y_ldb 0 Try.isAgg3 (fe_t rfl) rfl rfl) ?_)
          refine tl_want rfl rfl rfl (oj_val (y_move (fe_t rfl)) ?_)
          refine tl_want rfl rfl rfl (oj_val (y_leq (fe_t rfl) (fe_t rfl)) ?_)
          refine tl_step rfl (oj_val (y_pickt (fe_t rfl) (fe_t rfl)) ?_)
          refine tl_nil ?_
          refine tx_then ?_
          refine tr_condp (fe_t rfl) (fun hq5 => ?_) (fun hq6 => ?_)
          · try (exfalso; omega)
            all_goals
              refine tr_region ?_
              refine tl_step rfl (oj_val (y_move (fe_t rfl)) ?_)
              refine tl_step rfl (oj_val (y_inc (fe_t rfl) fe_c (by omega)) ?_)
              refine tl_step rfl (oj_val (y_assign (fe_t rfl)) ?_)
              refine tl_nil ?_
              refine tx_in ?_
              refine tx_then ?_
              first | have hct := cnt_t (l := l) (a := a) (b := b) (k := j) (by omega) | have hct := cnt_f (l := l) (a := a) (b := b) (k := j) (by omega)
              refine tr_region ?_
              refine tl_step rfl (oj_val (y_inc (fe_t rfl) fe_c (by omega)) ?_)
              refine tl_step rfl (oj_val (y_move (fe_t rfl)) ?_)
              refine tl_nil ?_
              apply tx_back1 (j + 1)
              · exact (cov_cons (by first | rfl | exact v_int (by omega) | exact v_bool (by simp [*])) (cov_cons (by first | rfl | exact v_int (by omega) | exact v_bool (by simp [*])) (cov_nil)))
              · repeat (first | exact over_nil | refine over_put rfl ?_ | refine over_drop rfl ?_)
              · exact fun w h => h.pick [] _ rfl (by decide)
              · exact ⟨by omega, by omega⟩
          · try (exfalso; omega)
            all_goals
              refine tr_skip ?_
              refine tx_in ?_
              refine tx_then ?_
              first | have hct := cnt_t (l := l) (a := a) (b := b) (k := j) (by omega) | have hct := cnt_f (l := l) (a := a) (b := b) (k := j) (by omega)
              refine tr_region ?_
              refine tl_step rfl (oj_val (y_inc (fe_t rfl) fe_c (by omega)) ?_)
              refine tl_step rfl (oj_val (y_move (fe_t rfl)) ?_)
              refine tl_nil ?_
              apply tx_back1 (j + 1)
              · exact (cov_cons (by first | rfl | exact v_int (by omega) | exact v_bool (by simp [*])) (cov_cons (by first | rfl | exact v_int (by omega) | exact v_bool (by simp [*])) (cov_nil)))
              · repeat (first | exact over_nil | refine over_put rfl ?_ | refine over_drop rfl ?_)
              · exact fun w h => h.pick [] _ rfl (by decide)
              · exact ⟨by omega, by omega⟩
      · try (exfalso; omega)
        all_goals
          refine tl_skip rfl rfl rfl rfl ?_
          refine tl_skip rfl rfl rfl rfl ?_
          refine tl_skip rfl rfl rfl rfl ?_
          refine tl_skip rfl rfl rfl rfl ?_
          refine tl_step rfl (oj_val (y_pickf (fe_t rfl) fe_c) ?_)
          refine tl_nil ?_
          refine tx_then ?_
          refine tr_condf (fe_t rfl) ?_
          refine tr_skip ?_
          refine tx_in ?_
          refine tx_then ?_
          first | have hct := cnt_t (l := l) (a := a) (b := b) (k := j) (by omega) | have hct := cnt_f (l := l) (a := a) (b := b) (k := j) (by omega)
          refine tr_region ?_
          refine tl_step rfl (oj_val (y_inc (fe_t rfl) fe_c (by omega)) ?_)
          refine tl_step rfl (oj_val (y_move (fe_t rfl)) ?_)
          refine tl_nil ?_
          apply tx_back1 (j + 1)
          · exact (cov_cons (by first | rfl | exact v_int (by omega) | exact v_bool (by simp [*])) (cov_cons (by first | rfl | exact v_int (by omega) | exact v_bool (by simp [*])) (cov_nil)))
          · repeat (first | exact over_nil | refine over_put rfl ?_ | refine over_drop rfl ?_)
          · exact fun w h => h.pick [] _ rfl (by decide)
          · exact ⟨by omega, by omega⟩
  · try (exfalso; omega)
    all_goals
      refine tr_exit ?_
      refine tx_then_exit ?_
      refine tx_then_exit ?_
      refine tx_in_exit ?_
      refine tx_then ?_
      refine tr_seq ?_
      obtain rfl : j = n := by omega
      refine tr_region ?_
      refine tl_step rfl (oj_val (y_move (fe_t rfl)) ?_)
      refine tl_step rfl (oj_val (y_move (fe_t rfl)) ?_)
      refine tl_step rfl (oj_val (y_move (fe_t rfl)) ?_)
      refine tl_step rfl (oj_val (y_sub (fe_t rfl) (fe_t rfl) (by omega)) ?_)
      refine tl_step rfl (oj_val (y_gtr (fe_t rfl) (fe_t rfl)) ?_)
      refine tl_step rfl (oj_val (y_move (fe_t rfl)) ?_)
      refine tl_splitp (d := 34) rfl (fun hq7 => ?_) (fun hq8 => ?_)
      · try (exfalso; omega)
        all_goals
          refine tl_want rfl rfl rfl (oj_val (y_move (fe_t rfl)) ?_)
          refine tl_want rfl rfl rfl (oj_val (y_gtr (fe_t rfl) fe_c) ?_)
          refine tl_step rfl (oj_val (y_pickt (fe_t rfl) (fe_t rfl)) ?_)
          refine tl_step rfl (oj_val (y_assign (fe_t rfl)) ?_)
          refine tl_nil ?_
          refine tx_then ?_
          refine tr_ret ?_
          refine tx_ret (res1 Try.results53 (rok_t rfl)) (fun w' hS => ?_)
          exact ⟨ret_bool (by unfold much; first | (simp [*]; done) | (simp [*] <;> omega) | (simp <;> omega)), hS.pick [] _ rfl (by decide)⟩
      · try (exfalso; omega)
        all_goals
          refine tl_skip rfl rfl rfl rfl ?_
          refine tl_skip rfl rfl rfl rfl ?_
          refine tl_step rfl (oj_val (y_pickf (fe_t rfl) fe_c) ?_)
          refine tl_step rfl (oj_val (y_assign (fe_t rfl)) ?_)
          refine tl_nil ?_
          refine tx_then ?_
          refine tr_ret ?_
          refine tx_ret (res1 Try.results53 (rok_t rfl)) (fun w' hS => ?_)
          exact ⟨ret_bool (by unfold much; first | (simp [*]; done) | (simp [*] <;> omega) | (simp <;> omega)), hS.pick [] _ rfl (by decide)⟩

end Go.Proofs.Ytdfjeoifeladfaa.Edf
