/- Walks: FWithin, Wrong, FWrong, FFind. -/
import Derived.Test.YtpknjfeiiaopgaaTfV
namespace Go.Proofs.Ytpknjfeiiaopgaa.Trie
open Go.RowKit Go.Proofs.Ytpknjfeiiaopgaa.E

set_option maxRecDepth 100000 in
set_option maxHeartbeats 4000000 in
theorem fwithinE (x : Ad) (p : Pfx) (hx : x.ok) (hp : p.x.ok) (w : World) :
    Calls Try.prog 14 #[.agg #[.int .u8 x.a, .int .u8 x.b, .int .u8 x.c, .int .u8 x.d], .agg #[.int .u8 p.x.a, .int .u8 p.x.b, .int .u8 p.x.c, .int .u8 p.x.d, (.int .i64 p.n), (.int .i64 p.to)]] w fun e w' => e = .returned (.bool (within x.v p.v p.n)) ∧ St w w' [] := by
  refine calls_tr Try.func14 Try.ntmps14 rfl rfl (St.refl _) ?_
  refine tr_seq ?_
  refine tr_region ?_
  refine tl_step rfl (oj_box (fe_t rfl) (fun xb => ?_))
  refine tl_step rfl (oj_box (fe_t rfl) (fun qb => ?_))
  refine tl_step rfl (oj_val (y_assign fe_c) ?_)
  refine tl_nil ?_
  refine tx_then ?_
  refine tr_seq ?_
  refine tb_draw 21 (sel _ [0, 1]) (fun w h => h.sel _ rfl (by decide)) rfl ?_
  refine tb_float (i := 0) rfl (by kernel_rfl) rfl (wants_none rfl) (yq_of (y_fieldAddr (td := 3) Try.underlying26 rfl rfl Try.sizeOf3 (o' := 4) rfl (fe_t rfl))) ?_
  refine tb_float (i := 1) rfl (by kernel_rfl) rfl (wants_none rfl) (yq_of (y_ldb 0 Try.isAgg3 (fe_t rfl) rfl rfl)) ?_
  refine tb_float (i := 2) rfl (by kernel_rfl) rfl (wants_none rfl) (yq_of (y_geq (fe_t rfl) fe_c)) ?_
  refine tb_float (i := 3) rfl (by kernel_rfl) rfl (wants_none rfl) (yq_of (y_move (fe_t rfl))) ?_
  refine tb_splitp (d := 8) rfl (fun hq1 => ?_) (fun hq2 => ?_)
  · try (exfalso; omega)
    all_goals
      refine tb_float (i := 4) rfl (by kernel_rfl) rfl (wants_t rfl rfl rfl) (yq_of (y_fieldAddr (td := 3) Try.underlying26 rfl rfl Try.sizeOf3 (o' := 4) rfl (fe_t rfl))) ?_
      refine tb_float (i := 5) rfl (by kernel_rfl) rfl (wants_t rfl rfl rfl) (yq_of (y_ldb 0 Try.isAgg3 (fe_t rfl) rfl rfl)) ?_
      refine tb_float (i := 6) rfl (by kernel_rfl) rfl (wants_t rfl rfl rfl) (yq_of (y_leq (fe_t rfl) fe_c)) ?_
      refine tb_float (i := 7) rfl (by kernel_rfl) rfl (wants_none rfl) (yq_of (y_pickt (fe_t rfl) (fe_t rfl))) ?_
      refine tb_float (i := 8) rfl (by kernel_rfl) rfl (wants_none rfl) (yq_of (y_move (fe_t rfl))) ?_
      refine tb_splitp (d := 13) rfl (fun hq3 => ?_) (fun hq4 => ?_)
      · try (exfalso; omega)
        all_goals
          refine tb_float (i := 9) rfl (by kernel_rfl) rfl (wants_t rfl rfl rfl) (yq_of (y_ldbA 1 Try.isAgg24 Try.sizeOf24 (fe_t rfl) rfl rfl rfl)) ?_
          refine tb_float (i := 10) rfl (by kernel_rfl) rfl (wants_t rfl rfl rfl) (yq_of (y_fieldAddr (td := 3) Try.underlying26 rfl rfl Try.sizeOf3 (o' := 4) rfl (fe_t rfl))) ?_
          refine tb_float (i := 11) rfl (by kernel_rfl) rfl (wants_t rfl rfl rfl) (yq_of (y_ldb 0 Try.isAgg3 (fe_t rfl) rfl rfl)) ?_
          refine tb_float (i := 12) rfl (by kernel_rfl) rfl (wants_t rfl rfl rfl) (yq_call Try.call51 fe_f (fel_cons (fe_t rfl) (fel_cons (fe_t rfl) fel_nil)) (fun w' hS => fbitsE x p.n w' hx (by omega) (by omega))) ?_
          refine tb_float (i := 13) rfl (by kernel_rfl) rfl (wants_t rfl rfl rfl) (yq_of (y_fieldAddr (td := 24) Try.underlying26 rfl rfl Try.sizeOf24 (o' := 0) rfl (fe_t rfl))) ?_
          refine tb_float (i := 14) rfl (by kernel_rfl) rfl (wants_t rfl rfl rfl) (yq_of (y_ldbA 0 Try.isAgg24 Try.sizeOf24 (fe_t rfl) rfl rfl rfl)) ?_
          refine tb_float (i := 15) rfl (by kernel_rfl) rfl (wants_t rfl rfl rfl) (yq_of (y_fieldAddr (td := 3) Try.underlying26 rfl rfl Try.sizeOf3 (o' := 4) rfl (fe_t rfl))) ?_
          refine tb_float (i := 16) rfl (by kernel_rfl) rfl (wants_t rfl rfl rfl) (yq_of (y_ldb 0 Try.isAgg3 (fe_t rfl) rfl rfl)) ?_
          refine tb_float (i := 17) rfl (by kernel_rfl) rfl (wants_t rfl rfl rfl) (yq_call Try.call51 fe_f (fel_cons (fe_t rfl) (fel_cons (fe_t rfl) fel_nil)) (fun w' hS => fbitsE p.x p.n w' hp (by omega) (by omega))) ?_
          refine tb_float (i := 18) rfl (by kernel_rfl) rfl (wants_t rfl rfl rfl) (yq_of (y_eq (fe_t rfl) (fe_t rfl))) ?_
          refine tb_float (i := 19) rfl (by kernel_rfl) rfl (wants_none rfl) (yq_of (y_pickt (fe_t rfl) (fe_t rfl))) ?_
          refine tb_float (i := 20) rfl (by kernel_rfl) rfl (wants_none rfl) (yq_of (y_assign (fe_t rfl))) ?_
          refine tb_done (by kernel_rfl) ?_
          refine tx_then ?_
          refine tr_ret ?_
          refine tx_ret (res1 Try.results14 (rok_t rfl)) (fun w' hS => ?_)
          exact ⟨ret_bool (by first | exact within_t (by omega) (by omega) | exact within_f (by omega)), hS.pick [] _ rfl (by decide)⟩
      · try (exfalso; omega)
        all_goals
          refine tb_skip (i := 9) rfl (by kernel_rfl) rfl (wants_f rfl rfl rfl rfl) ?_
          refine tb_skip (i := 10) rfl (by kernel_rfl) rfl (wants_f rfl rfl rfl rfl) ?_
          refine tb_skip (i := 11) rfl (by kernel_rfl) rfl (wants_f rfl rfl rfl rfl) ?_
          refine tb_skip (i := 12) rfl (by kernel_rfl) rfl (wants_f rfl rfl rfl rfl) ?_
          refine tb_skip (i := 13) rfl (by kernel_rfl) rfl (wants_f rfl rfl rfl rfl) ?_
          refine tb_skip (i := 14) rfl (by kernel_rfl) rfl (wants_f rfl rfl rfl rfl) ?_
          refine tb_skip (i := 15) rfl (by kernel_rfl) rfl (wants_f rfl rfl rfl rfl) ?_
          refine tb_skip (i := 16) rfl (by kernel_rfl) rfl (wants_f rfl rfl rfl rfl) ?_
          refine tb_skip (i := 17) rfl (by kernel_rfl) rfl (wants_f rfl rfl rfl rfl) ?_
          refine tb_skip (i := 18) rfl (by kernel_rfl) rfl (wants_f rfl rfl rfl rfl) ?_
          refine tb_float (i := 19) rfl (by kernel_rfl) rfl (wants_none rfl) (yq_of (y_pickf (fe_t rfl) fe_c)) ?_
          refine tb_float (i := 20) rfl (by kernel_rfl) rfl (wants_none rfl) (yq_of (y_assign (fe_t rfl))) ?_
          refine tb_done (by kernel_rfl) ?_
          refine tx_then ?_
          refine tr_ret ?_
          refine tx_ret (res1 Try.results14 (rok_t rfl)) (fun w' hS => ?_)
          exact ⟨ret_bool (by first | exact within_t (by omega) (by omega) | exact within_f (by omega)), hS.pick [] _ rfl (by decide)⟩
  · try (exfalso; omega)
    all_goals
      refine tb_skip (i := 4) rfl (by kernel_rfl) rfl (wants_f rfl rfl rfl rfl) ?_
      refine tb_skip (i := 5) rfl (by kernel_rfl) rfl (wants_f rfl rfl rfl rfl) ?_
      refine tb_skip (i := 6) rfl (by kernel_rfl) rfl (wants_f rfl rfl rfl rfl) ?_
      refine tb_float (i := 7) rfl (by kernel_rfl) rfl (wants_none rfl) (yq_of (y_pickf (fe_t rfl) fe_c)) ?_
      refine tb_float (i := 8) rfl (by kernel_rfl) rfl (wants_none rfl) (yq_of (y_move (fe_t rfl))) ?_
      refine tb_skip (i := 9) rfl (by kernel_rfl) rfl (wants_f rfl rfl rfl rfl) ?_
      refine tb_skip (i := 10) rfl (by kernel_rfl) rfl (wants_f rfl rfl rfl rfl) ?_
      refine tb_skip (i := 11) rfl (by kernel_rfl) rfl (wants_f rfl rfl rfl rfl) ?_
      refine tb_skip (i := 12) rfl (by kernel_rfl) rfl (wants_f rfl rfl rfl rfl) ?_
      refine tb_skip (i := 13) rfl (by kernel_rfl) rfl (wants_f rfl rfl rfl rfl) ?_
      refine tb_skip (i := 14) rfl (by kernel_rfl) rfl (wants_f rfl rfl rfl rfl) ?_
      refine tb_skip (i := 15) rfl (by kernel_rfl) rfl (wants_f rfl rfl rfl rfl) ?_
      refine tb_skip (i := 16) rfl (by kernel_rfl) rfl (wants_f rfl rfl rfl rfl) ?_
      refine tb_skip (i := 17) rfl (by kernel_rfl) rfl (wants_f rfl rfl rfl rfl) ?_
      refine tb_skip (i := 18) rfl (by kernel_rfl) rfl (wants_f rfl rfl rfl rfl) ?_
      refine tb_float (i := 19) rfl (by kernel_rfl) rfl (wants_none rfl) (yq_of (y_pickf (fe_t rfl) fe_c)) ?_
      refine tb_float (i := 20) rfl (by kernel_rfl) rfl (wants_none rfl) (yq_of (y_assign (fe_t rfl))) ?_
      refine tb_done (by kernel_rfl) ?_
      refine tx_then ?_
      refine tr_ret ?_
      refine tx_ret (res1 Try.results14 (rok_t rfl)) (fun w' hS => ?_)
      exact ⟨ret_bool (by first | exact within_t (by omega) (by omega) | exact within_f (by omega)), hS.pick [] _ rfl (by decide)⟩

set_option maxRecDepth 100000 in
set_option maxHeartbeats 4000000 in
theorem wrongE (A : Option Addr) (n c : Nat) (l : List Pfx) (w : World) (hr : Rd w A (l.flatMap cPx)) (hn : l.length = n) (hm : n ≤ 140737488355328) (hc : n ≤ c) (hok : ∀ p ∈ l, p.x.ok) :
    Calls Try.prog 12 #[.slice A n c] w fun e w' => e = .returned (.int .i64 (wrong l)) ∧ St w w' [] := by
  refine calls_tr Try.func12 Try.ntmps12 rfl rfl (St.refl _) ?_
  refine tr_seq ?_
  refine tr_region ?_
  refine tl_step rfl (oj_val (y_assign fe_c) ?_)
  refine tl_nil ?_
  refine tx_then ?_
  refine tr_seq ?_
  refine tr_seq ?_
  refine tr_region ?_
  refine tl_step rfl (oj_val (y_move (fe_t rfl)) ?_)
  refine tl_step rfl (oj_val (y_len Try.underlying22 (fe_t rfl)) ?_)
  refine tl_step rfl (oj_val (y_gtr (fe_t rfl) fe_c) ?_)
  refine tl_nil ?_
  refine tx_then ?_
  refine tr_condp (fe_t rfl) (fun hq1 => ?_) (fun hq2 => ?_)
  · try (exfalso; omega)
    all_goals
      refine tr_seq ?_
      refine tr_region ?_
      refine tl_step rfl (oj_val (y_assign fe_c) ?_)
      refine tl_nil ?_
      refine tx_then ?_
      refine tr_ret ?_
      refine tx_then_ret ?_
      refine tx_ret (res1 Try.results12 (rok_t rfl)) (fun w' hS => ?_)
      have hw := wrong_long (l := l) (by omega)
      exact ⟨by rw [hw], hS.pick [] _ rfl (by decide)⟩
  · try (exfalso; omega)
    all_goals
      refine tr_skip ?_
      refine tx_then ?_
      refine tr_seq ?_
      refine tr_seq ?_
      refine tr_region ?_
      refine tl_step rfl (oj_val (y_move (fe_t rfl)) ?_)
      refine tl_step rfl (oj_val (y_len Try.underlying22 (fe_t rfl)) ?_)
      refine tl_step rfl (oj_val (y_move fe_c) ?_)
      refine tl_nil ?_
      refine tx_then ?_
      refine tr_block ?_
      refine tr_loop1 [2, 3, 4, 5, 7, 13, 14, 15, 16, 17, 18, 19, 20, 21, 22, 23, 24, 25, 26, 27, 28, 29, 30, 31, 32, 33, 34, 35, 36, 37, 38, 39, 40, 41, 42, 43, 44, 45, 46, 47, 48, 49, 50, 51, 52, 53, 54, 55, 56, 57, 58] (fun (k : Nat) => [(13, .int .i64 (k : Int))]) 0 (fun (k : Nat) => []) (fun (k : Nat) => k ≤ n ∧ ∀ i, i < k → chk l i = 0) (fun (k : Nat) => n - k) (0) (cov_cons (by first | rfl | exact v_int (by omega) | exact v_bool (by simp [*])) (cov_nil)) (fun w h => h) ?_ ?_
      · try dsimp only
        exact ⟨by omega, fun i hi => absurd hi (Nat.not_lt_zero _)⟩
      intro k hp
      obtain ⟨hk, hz⟩ := hp
      refine tr_seq ?_
      refine tr_region ?_
      refine tl_step rfl (oj_val (y_lss (fe_t rfl) (fe_t rfl)) ?_)
      refine tl_nil ?_
      refine tx_then ?_
      refine tr_seq ?_
      refine tr_condp (fe_t rfl) (fun hq3 => ?_) (fun hq4 => ?_)
      · try (exfalso; omega)
        all_goals
          have hxk : (l.getD k pN).x.ok := hok _ (by rw [getD_lt (by omega)]; exact List.getElem_mem _)
          refine tr_skip ?_
          refine tx_then ?_
          refine tr_seq ?_
          refine tr_block ?_
          refine tr_seq ?_
          refine tr_region ?_
          refine tl_step rfl (oj_val (y_move (fe_t rfl)) ?_)
          refine tl_step rfl (oj_val (y_index Try.underlying22 Try.sizeOf26 (fe_t rfl) (fe_t rfl) (rdl_out hr) (by rw [flat_len hcPx]; omega) (by decide) (by omega) rfl) ?_)
          refine tl_step rfl (oj_val (y_ldA (cs := cPx (l.getD k pN)) Try.isAgg26 Try.sizeOf26 (fe_t rfl) (rdl_out hr) rfl (by decide) (flatGA (d := pN) hcPx (by omega))) ?_)
          refine tl_step rfl (oj_alloc Try.zeroValue26 (fun pb => ?_))
          refine tl_step rfl (oj_val (y_assign (fe_t rfl)) ?_)
          refine tl_step rfl (oj_storeW 0 Try.sizeOf26 (fe_t rfl) (fe_t rfl) rfl rfl rfl rfl rfl (?_))
          refine tl_nil ?_
          refine tx_then ?_
          refine tr_seq ?_
          refine tr_seq ?_
          refine tr_region ?_
          refine tl_step rfl (oj_val (y_fieldAddr (td := 3) Try.underlying26 rfl rfl Try.sizeOf3 (o' := 4) rfl (fe_t rfl)) ?_)
          refine tl_step rfl (oj_val (y_ldb 0 Try.isAgg3 (fe_t rfl) rfl rfl) ?_)
          refine tl_step rfl (oj_val (y_lss (fe_t rfl) fe_c) ?_)
          refine tl_step rfl (oj_val (y_move (fe_t rfl)) ?_)
          refine tl_splitp (d := 21) rfl (fun hq5 => ?_) (fun hq6 => ?_)
          · try (exfalso; omega)
            all_goals
              refine tl_skip rfl rfl rfl rfl ?_
              refine tl_skip rfl rfl rfl rfl ?_
              refine tl_skip rfl rfl rfl rfl ?_
              refine tl_step rfl (oj_val (y_pickt (fe_t rfl) fe_c) ?_)
              refine tl_nil ?_
              refine tx_then ?_
              refine tr_condt (fe_t rfl) ?_
              refine tr_seq ?_
              refine tr_region ?_
              refine tl_step rfl (oj_val (y_assign fe_c) ?_)
              refine tl_nil ?_
              refine tx_then ?_
              refine tr_ret ?_
              refine tx_then_ret ?_
              refine tx_in_ret ?_
              refine tx_then_ret ?_
              refine tx_then_ret ?_
              refine tx_in_ret ?_
              refine tx_then_ret ?_
              refine tx_ret (res1 Try.results12 (rok_t rfl)) (fun w' hS => ?_)
              have hw := wrong_is hz (by omega) (by omega) (chk_r (by omega) (by omega)) (by decide)
              exact ⟨by rw [hw], hS.pick [] _ rfl (by decide)⟩
          · try (exfalso; omega)
            all_goals
              refine tl_want rfl rfl rfl (oj_val (y_fieldAddr (td := 3) Try.underlying26 rfl rfl Try.sizeOf3 (o' := 4) rfl (fe_t rfl)) ?_)
              refine tl_want rfl rfl rfl (oj_val (y_ldb 0 Try.isAgg3 (fe_t rfl) rfl rfl) ?_)
              refine tl_want rfl rfl rfl (oj_val (y_gtr (fe_t rfl) fe_c) ?_)
              refine tl_step rfl (oj_val (y_pickf (fe_t rfl) (fe_t rfl)) ?_)
              refine tl_nil ?_
              refine tx_then ?_
              refine tr_condp (fe_t rfl) (fun hq7 => ?_) (fun hq8 => ?_)
              · try (exfalso; omega)
                all_goals
                  refine tr_seq ?_
                  refine tr_region ?_
                  refine tl_step rfl (oj_val (y_assign fe_c) ?_)
                  refine tl_nil ?_
                  refine tx_then ?_
                  refine tr_ret ?_
                  refine tx_then_ret ?_
                  refine tx_in_ret ?_
                  refine tx_then_ret ?_
                  refine tx_then_ret ?_
                  refine tx_in_ret ?_
                  refine tx_then_ret ?_
                  refine tx_ret (res1 Try.results12 (rok_t rfl)) (fun w' hS => ?_)
                  have hw := wrong_is hz (by omega) (by omega) (chk_r (by omega) (by omega)) (by decide)
                  exact ⟨by rw [hw], hS.pick [] _ rfl (by decide)⟩
              · try (exfalso; omega)
                all_goals
                  refine tr_skip ?_
                  refine tx_then ?_
                  refine tr_seq ?_
                  refine tr_seq ?_
                  refine tr_region ?_
                  refine tl_step rfl (oj_val (y_fieldAddr (td := 3) Try.underlying26 rfl rfl Try.sizeOf3 (o' := 4) rfl (fe_t rfl)) ?_)
                  refine tl_step rfl (oj_val (y_ldb 0 Try.isAgg3 (fe_t rfl) rfl rfl) ?_)
                  refine tl_step rfl (oj_val (y_assign (fe_t rfl)) ?_)
                  refine tl_nil ?_
                  refine tx_then ?_
                  refine tr_block ?_
                  refine tr_loop1 [2, 5, 28, 29, 30, 31, 32, 33, 34, 35, 36] (fun (m : Nat) => [(5, .int .i64 (m : Int))]) 0 (fun (m : Nat) => []) (fun (m : Nat) => (l.getD k pN).n.toNat ≤ m ∧ m ≤ 32 ∧ noz (l.getD k pN).v (l.getD k pN).n.toNat m) (fun (m : Nat) => 32 - m) ((l.getD k pN).n.toNat) (cov_cons (by first | rfl | exact v_int (by omega) | exact v_bool (by simp [*])) (cov_nil)) (fun w h => h) ?_ ?_
                  · try dsimp only
                    exact ⟨Nat.le_refl _, by omega, noz_zero _ _⟩
                  intro m hp
                  obtain ⟨hm0, hm1, hmz⟩ := hp
                  have hab := abit_bd (l.getD k pN).x.v m
                  refine tr_seq ?_
                  refine tr_seq ?_
                  refine tr_region ?_
                  refine tl_step rfl (oj_val (y_move (fe_t rfl)) ?_)
                  refine tl_step rfl (oj_val (y_lss (fe_t rfl) fe_c) ?_)
                  refine tl_nil ?_
                  refine tx_then ?_
                  refine tr_condp (fe_t rfl) (fun hq9 => ?_) (fun hq10 => ?_)
                  · try (exfalso; omega)
                    all_goals
                      refine tr_skip ?_
                      refine tx_then ?_
                      refine tr_seq ?_
                      refine tr_block ?_
                      refine tr_seq ?_
                      refine tr_region ?_
                      refine tl_step rfl (oj_val (y_fieldAddr (td := 24) Try.underlying26 rfl rfl Try.sizeOf24 (o' := 0) rfl (fe_t rfl)) ?_)
                      refine tl_step rfl (oj_val (y_ldbA 0 Try.isAgg24 Try.sizeOf24 (fe_t rfl) rfl rfl rfl) ?_)
                      refine tl_step rfl (oj_val (y_move (fe_t rfl)) ?_)
                      refine tl_step rfl (oj_callv Try.call50 fe_f (fel_cons (fe_t rfl) (fel_cons (fe_t rfl) fel_nil)) (fun w' hS => bitE (l.getD k pN).x hxk m (by omega) w') ?_)
                      refine tl_step rfl (oj_val (y_eq (fe_t rfl) fe_c) ?_)
                      refine tl_nil ?_
                      refine tx_then ?_
                      refine tr_condp (fe_t rfl) (fun hq11 => ?_) (fun hq12 => ?_)
                      · try (exfalso; omega)
                        all_goals
                          refine tr_seq ?_
                          refine tr_region ?_
                          refine tl_step rfl (oj_val (y_assign fe_c) ?_)
                          refine tl_nil ?_
                          refine tx_then ?_
                          refine tr_ret ?_
                          refine tx_in_ret ?_
                          refine tx_then_ret ?_
                          refine tx_then_ret ?_
                          refine tx_in_ret ?_
                          refine tx_then_ret ?_
                          refine tx_in_ret ?_
                          refine tx_then_ret ?_
                          refine tx_then_ret ?_
                          refine tx_in_ret ?_
                          refine tx_then_ret ?_
                          refine tx_ret (res1 Try.results12 (rok_t rfl)) (fun w' hS => ?_)
                          have hw := wrong_is hz (by omega) (by omega) (chk_f (by omega) (by omega) (by omega) (noz_one hmz hm0 (by omega) (show abit (l.getD k pN).x.v m = 1 by omega))) (by decide)
                          exact ⟨by rw [hw], hS.pick [] _ rfl (by decide)⟩
                      · try (exfalso; omega)
                        all_goals
                          refine tr_skip ?_
                          refine tx_in ?_
                          refine tx_then ?_
                          refine tr_region ?_
                          refine tl_step rfl (oj_val (y_move (fe_t rfl)) ?_)
                          refine tl_step rfl (oj_val (y_inc (fe_t rfl) fe_c (by omega)) ?_)
                          refine tl_step rfl (oj_val (y_assign (fe_t rfl)) ?_)
                          refine tl_nil ?_
                          apply tx_back1 (m + 1)
                          · exact (cov_cons (by first | rfl | exact v_int (by omega) | exact v_bool (by simp [*])) (cov_nil))
                          · repeat (first | exact over_nil | refine over_put rfl ?_ | refine over_drop rfl ?_)
                          · exact fun w h => h.pick [0] _ rfl (by decide)
                          · exact ⟨⟨by omega, by omega, noz_next hmz hm0 (by omega) (show abit (l.getD k pN).x.v m = 0 by omega)⟩, by omega⟩
                  · try (exfalso; omega)
                    all_goals
                      refine tr_exit ?_
                      refine tx_then_exit ?_
                      refine tx_then_exit ?_
                      refine tx_in_exit ?_
                      refine tx_then ?_
                      refine tr_seq ?_
                      obtain rfl : m = 32 := by omega
                      have hzz := hmz
                      have hpre := rd_pre hr k
                      refine tr_region ?_
                      refine tl_step rfl (oj_val (y_move (fe_t rfl)) ?_)
                      refine tl_step rfl (oj_val (y_move (fe_t rfl)) ?_)
                      refine tl_step rfl (oj_val (y_cutH Try.underlying22 Try.sizeOf26 (fe_t rfl) (fe_t rfl) (by omega)) ?_)
                      refine tl_step rfl (oj_val (y_len Try.underlying22 (fe_t rfl)) ?_)
                      refine tl_step rfl (oj_val (y_move fe_c) ?_)
                      refine tl_nil ?_
                      refine tx_then ?_
                      refine tr_block ?_
                      refine tr_loop1 [2, 7, 41, 42, 43, 44, 45, 46, 47, 48, 49, 50, 51, 52, 53, 54, 55, 56, 57] (fun (j : Nat) => [(41, .int .i64 (j : Int))]) 0 (fun (j : Nat) => []) (fun (j : Nat) => j ≤ k ∧ ∀ i, i < j → ¬ ((l.getD i pN).n = (l.getD k pN).n ∧ (l.getD i pN).v = (l.getD k pN).v)) (fun (j : Nat) => k - j) (0) (cov_cons (by first | rfl | exact v_int (by omega) | exact v_bool (by simp [*])) (cov_nil)) (fun w h => h) ?_ ?_
                      · try dsimp only
                        exact ⟨by omega, fun i hi => absurd hi (Nat.not_lt_zero _)⟩
                      intro j hp
                      obtain ⟨hj, hno⟩ := hp
                      refine tr_seq ?_
                      refine tr_region ?_
                      refine tl_step rfl (oj_val (y_lss (fe_t rfl) (fe_t rfl)) ?_)
                      refine tl_nil ?_
                      refine tx_then ?_
                      refine tr_seq ?_
                      refine tr_condp (fe_t rfl) (fun hq13 => ?_) (fun hq14 => ?_)
                      · try (exfalso; omega)
                        all_goals
                          refine tr_skip ?_
                          refine tx_then ?_
                          refine tr_seq ?_
                          refine tr_block ?_
                          refine tr_seq ?_
                          refine tr_region ?_
                          refine tl_step rfl (oj_val (y_index Try.underlying22 Try.sizeOf26 (fe_t rfl) (fe_t rfl) (rdl_out hpre) (by rw [flat_len hcPx]; rw [List.length_take]; omega) (by decide) (by omega) rfl) ?_)
                          refine tl_step rfl (oj_val (y_ldA (cs := cPx (l.getD j pN)) Try.isAgg26 Try.sizeOf26 (fe_t rfl) (rdl_out hpre) rfl (by decide) (by rw [← getD_take (k := k) (by omega : j < k)]; exact flatGA (d := pN) hcPx (by rw [List.length_take]; omega))) ?_)
                          refine tl_step rfl (oj_alloc Try.zeroValue26 (fun qb => ?_))
                          refine tl_step rfl (oj_storeW 0 Try.sizeOf26 (fe_t rfl) (fe_t rfl) rfl rfl rfl rfl rfl (?_))
                          refine tl_nil ?_
                          refine tx_then ?_
                          refine tr_seq ?_
                          refine tr_region ?_
                          refine tl_step rfl (oj_val (y_fieldAddr (td := 3) Try.underlying26 rfl rfl Try.sizeOf3 (o' := 4) rfl (fe_t rfl)) ?_)
                          refine tl_step rfl (oj_val (y_ldb 0 Try.isAgg3 (fe_t rfl) rfl rfl) ?_)
                          refine tl_step rfl (oj_val (y_fieldAddr (td := 3) Try.underlying26 rfl rfl Try.sizeOf3 (o' := 4) rfl (fe_t rfl)) ?_)
                          refine tl_step rfl (oj_val (y_ldb 1 Try.isAgg3 (fe_t rfl) rfl rfl) ?_)
                          refine tl_step rfl (oj_val (y_eq (fe_t rfl) (fe_t rfl)) ?_)
                          refine tl_step rfl (oj_val (y_move (fe_t rfl)) ?_)
                          refine tl_splitp (d := 50) rfl (fun hq15 => ?_) (fun hq16 => ?_)
                          · try (exfalso; omega)
                            all_goals
                              refine tl_want rfl rfl rfl (oj_val (y_fieldAddr (td := 24) Try.underlying26 rfl rfl Try.sizeOf24 (o' := 0) rfl (fe_t rfl)) ?_)
                              refine tl_want rfl rfl rfl (oj_val (y_ldbA 0 Try.isAgg24 Try.sizeOf24 (fe_t rfl) rfl rfl rfl) ?_)
                              refine tl_want rfl rfl rfl (oj_val (y_fieldAddr (td := 24) Try.underlying26 rfl rfl Try.sizeOf24 (o' := 0) rfl (fe_t rfl)) ?_)
                              refine tl_want rfl rfl rfl (oj_val (y_ldbA 1 Try.isAgg24 Try.sizeOf24 (fe_t rfl) rfl rfl rfl) ?_)
                              refine tl_want rfl rfl rfl (oj_val (y_binop (fe_t rfl) (fe_t rfl) (fun w => eq_adr (l.getD j pN).x (l.getD k pN).x w)) ?_)
                              refine tl_step rfl (oj_val (y_pickt (fe_t rfl) (fe_t rfl)) ?_)
                              refine tl_nil ?_
                              refine tx_then ?_
                              refine tr_condp (fe_t rfl) (fun hq17 => ?_) (fun hq18 => ?_)
                              · try (exfalso; omega)
                                all_goals
                                  refine tr_seq ?_
                                  refine tr_region ?_
                                  refine tl_step rfl (oj_val (y_assign fe_c) ?_)
                                  refine tl_nil ?_
                                  refine tx_then ?_
                                  refine tr_ret ?_
                                  refine tx_in_ret ?_
                                  refine tx_then_ret ?_
                                  refine tx_then_ret ?_
                                  refine tx_in_ret ?_
                                  refine tx_in_ret ?_
                                  refine tx_then_ret ?_
                                  refine tx_then_ret ?_
                                  refine tx_in_ret ?_
                                  refine tx_then_ret ?_
                                  refine tx_ret (res1 Try.results12 (rok_t rfl)) (fun w' hS => ?_)
                                  have hdj : (l.getD j pN).n = (l.getD k pN).n ∧ (l.getD j pN).v = (l.getD k pN).v := ⟨by omega, congrArg Ad.v (by assumption)⟩
                                  have hw := wrong_is hz (by omega) (by omega) (chk_h (by omega) (by omega) (by omega) (noz_all hzz) (i := j) (by omega) hdj) (by decide)
                                  exact ⟨by rw [hw], hS.pick [] _ rfl (by decide)⟩
                              · try (exfalso; omega)
                                all_goals
                                  refine tr_skip ?_
                                  refine tx_in ?_
                                  refine tx_then ?_
                                  refine tr_region ?_
                                  refine tl_step rfl (oj_val (y_inc (fe_t rfl) fe_c (by omega)) ?_)
                                  refine tl_step rfl (oj_val (y_move (fe_t rfl)) ?_)
                                  refine tl_nil ?_
                                  apply tx_back1 (j + 1)
                                  · exact (cov_cons (by first | rfl | exact v_int (by omega) | exact v_bool (by simp [*])) (cov_nil))
                                  · repeat (first | exact over_nil | refine over_put rfl ?_ | refine over_drop rfl ?_)
                                  · exact fun w h => h.pick [1] _ rfl (by decide)
                                  · refine ⟨⟨by omega, no_next hno (fun h9 => ?_)⟩, by omega⟩
                                    first
                                      | exact absurd h9.1 (by omega)
                                      | exact absurd ((Ad.inj (hok _ (by rw [getD_lt (by omega)]; exact List.getElem_mem _)) hxk).1 h9.2) (by assumption)
                          · try (exfalso; omega)
                            all_goals
                              refine tl_skip rfl rfl rfl rfl ?_
                              refine tl_skip rfl rfl rfl rfl ?_
                              refine tl_skip rfl rfl rfl rfl ?_
                              refine tl_skip rfl rfl rfl rfl ?_
                              refine tl_skip rfl rfl rfl rfl ?_
                              refine tl_step rfl (oj_val (y_pickf (fe_t rfl) fe_c) ?_)
                              refine tl_nil ?_
                              refine tx_then ?_
                              refine tr_condf (fe_t rfl) ?_
                              refine tr_skip ?_
                              refine tx_in ?_
                              refine tx_then ?_
                              refine tr_region ?_
                              refine tl_step rfl (oj_val (y_inc (fe_t rfl) fe_c (by omega)) ?_)
                              refine tl_step rfl (oj_val (y_move (fe_t rfl)) ?_)
                              refine tl_nil ?_
                              apply tx_back1 (j + 1)
                              · exact (cov_cons (by first | rfl | exact v_int (by omega) | exact v_bool (by simp [*])) (cov_nil))
                              · repeat (first | exact over_nil | refine over_put rfl ?_ | refine over_drop rfl ?_)
                              · exact fun w h => h.pick [1] _ rfl (by decide)
                              · refine ⟨⟨by omega, no_next hno (fun h9 => ?_)⟩, by omega⟩
                                first
                                  | exact absurd h9.1 (by omega)
                                  | exact absurd ((Ad.inj (hok _ (by rw [getD_lt (by omega)]; exact List.getElem_mem _)) hxk).1 h9.2) (by assumption)
                      · try (exfalso; omega)
                        all_goals
                          refine tr_exit ?_
                          refine tx_then_exit ?_
                          refine tx_then_exit ?_
                          refine tx_in_exit ?_
                          refine tx_in ?_
                          refine tx_then ?_
                          refine tr_region ?_
                          refine tl_step rfl (oj_val (y_inc (fe_t rfl) fe_c (by omega)) ?_)
                          refine tl_step rfl (oj_val (y_move (fe_t rfl)) ?_)
                          refine tl_nil ?_
                          apply tx_back1 (k + 1)
                          · exact (cov_cons (by first | rfl | exact v_int (by omega) | exact v_bool (by simp [*])) (cov_nil))
                          · repeat (first | exact over_nil | refine over_put rfl ?_ | refine over_drop rfl ?_)
                          · exact fun w h => h.pick [] _ rfl (by decide)
                          · exact ⟨⟨by omega, zero_next hz (chk_0 (by omega) (by omega) (by omega) (noz_all hzz) (fun i hi => hno i (by omega)))⟩, by omega⟩
      · try (exfalso; omega)
        all_goals
          refine tr_exit ?_
          refine tx_then_exit ?_
          refine tx_then_exit ?_
          refine tx_in_exit ?_
          refine tx_then ?_
          refine tr_seq ?_
          refine tr_region ?_
          refine tl_step rfl (oj_val (y_assign fe_c) ?_)
          refine tl_nil ?_
          refine tx_then ?_
          refine tr_ret ?_
          refine tx_ret (res1 Try.results12 (rok_t rfl)) (fun w' hS => ?_)
          have hw := wrong_no (k := k) hz (by omega) (by omega)
          exact ⟨by rw [hw], hS.pick [] _ rfl (by decide)⟩

set_option maxRecDepth 100000 in
set_option maxHeartbeats 4000000 in
theorem fwrongE (A : Option Addr) (n c : Nat) (l : List Pfx) (w : World) (hr : Rd w A (l.flatMap cPx)) (hn : l.length = n) (hm : n ≤ 140737488355328) (hc : n ≤ c) (hok : ∀ p ∈ l, p.x.ok) :
    Calls Try.prog 11 #[.slice A n c] w fun e w' => e = .returned (.int .i64 (wrong l)) ∧ St w w' [] := by
  refine calls_tr Try.func11 Try.ntmps11 rfl rfl (St.refl _) ?_
  refine tr_seq ?_
  refine tr_region ?_
  refine tl_step rfl (oj_val (y_assign fe_c) ?_)
  refine tl_nil ?_
  refine tx_then ?_
  refine tr_seq ?_
  refine tr_seq ?_
  refine tr_region ?_
  refine tl_step rfl (oj_val (y_move (fe_t rfl)) ?_)
  refine tl_step rfl (oj_val (y_len Try.underlying22 (fe_t rfl)) ?_)
  refine tl_step rfl (oj_val (y_gtr (fe_t rfl) fe_c) ?_)
  refine tl_nil ?_
  refine tx_then ?_
  refine tr_condp (fe_t rfl) (fun hq1 => ?_) (fun hq2 => ?_)
  · try (exfalso; omega)
    all_goals
      refine tr_seq ?_
      refine tr_region ?_
      refine tl_step rfl (oj_val (y_assign fe_c) ?_)
      refine tl_nil ?_
      refine tx_then ?_
      refine tr_ret ?_
      refine tx_then_ret ?_
      refine tx_ret (res1 Try.results11 (rok_t rfl)) (fun w' hS => ?_)
      have hw := wrong_long (l := l) (by omega)
      exact ⟨by rw [hw], hS.pick [] _ rfl (by decide)⟩
  · try (exfalso; omega)
    all_goals
      refine tr_skip ?_
      refine tx_then ?_
      refine tr_seq ?_
      refine tr_seq ?_
      refine tr_region ?_
      refine tl_step rfl (oj_val (y_move (fe_t rfl)) ?_)
      refine tl_step rfl (oj_val (y_len Try.underlying22 (fe_t rfl)) ?_)
      refine tl_step rfl (oj_val (y_move fe_c) ?_)
      refine tl_nil ?_
      refine tx_then ?_
      refine tr_block ?_
      refine tr_loop1 [2, 3, 4, 5, 11, 12, 13, 14, 15, 16, 17, 18, 19, 20, 21, 22, 23, 24, 25, 26, 27, 28, 29, 30, 31, 32, 33, 34, 35, 36, 37, 38, 39, 40, 41, 42, 43, 44, 45, 46, 47, 48, 49, 50, 51, 52, 53, 54, 55, 56, 57, 58] (fun (k : Nat) => [(11, .int .i64 (k : Int))]) 0 (fun (k : Nat) => []) (fun (k : Nat) => k ≤ n ∧ ∀ i, i < k → chk l i = 0) (fun (k : Nat) => n - k) (0) (cov_cons (by first | rfl | exact v_int (by omega) | exact v_bool (by simp [*])) (cov_nil)) (fun w h => h) ?_ ?_
      · try dsimp only
        exact ⟨by omega, fun i hi => absurd hi (Nat.not_lt_zero _)⟩
      intro k hp
      obtain ⟨hk, hz⟩ := hp
      refine tr_seq ?_
      refine tr_region ?_
      refine tl_step rfl (oj_val (y_lss (fe_t rfl) (fe_t rfl)) ?_)
      refine tl_nil ?_
      refine tx_then ?_
      refine tr_seq ?_
      refine tr_condp (fe_t rfl) (fun hq3 => ?_) (fun hq4 => ?_)
      · try (exfalso; omega)
        all_goals
          have hxk : (l.getD k pN).x.ok := hok _ (by rw [getD_lt (by omega)]; exact List.getElem_mem _)
          refine tr_skip ?_
          refine tx_then ?_
          refine tr_seq ?_
          refine tr_block ?_
          refine tr_seq ?_
          refine tr_region ?_
          refine tl_step rfl (oj_val (y_move (fe_t rfl)) ?_)
          refine tl_step rfl (oj_val (y_index Try.underlying22 Try.sizeOf26 (fe_t rfl) (fe_t rfl) (rdl_out hr) (by rw [flat_len hcPx]; omega) (by decide) (by omega) rfl) ?_)
          refine tl_step rfl (oj_val (y_ldA (cs := cPx (l.getD k pN)) Try.isAgg26 Try.sizeOf26 (fe_t rfl) (rdl_out hr) rfl (by decide) (flatGA (d := pN) hcPx (by omega))) ?_)
          refine tl_step rfl (oj_alloc Try.zeroValue26 (fun pb => ?_))
          refine tl_step rfl (oj_val (y_assign (fe_t rfl)) ?_)
          refine tl_step rfl (oj_storeW 0 Try.sizeOf26 (fe_t rfl) (fe_t rfl) rfl rfl rfl rfl rfl (?_))
          refine tl_nil ?_
          refine tx_then ?_
          refine tr_seq ?_
          refine tr_seq ?_
          refine tr_region ?_
          refine tl_step rfl (oj_val (y_fieldAddr (td := 3) Try.underlying26 rfl rfl Try.sizeOf3 (o' := 4) rfl (fe_t rfl)) ?_)
          refine tl_step rfl (oj_val (y_ldb 0 Try.isAgg3 (fe_t rfl) rfl rfl) ?_)
          refine tl_step rfl (oj_val (y_lss (fe_t rfl) fe_c) ?_)
          refine tl_step rfl (oj_val (y_move (fe_t rfl)) ?_)
          refine tl_splitp (d := 19) rfl (fun hq5 => ?_) (fun hq6 => ?_)
          · try (exfalso; omega)
            all_goals
              refine tl_skip rfl rfl rfl rfl ?_
              refine tl_skip rfl rfl rfl rfl ?_
              refine tl_skip rfl rfl rfl rfl ?_
              refine tl_step rfl (oj_val (y_pickt (fe_t rfl) fe_c) ?_)
              refine tl_nil ?_
              refine tx_then ?_
              refine tr_condt (fe_t rfl) ?_
              refine tr_seq ?_
              refine tr_region ?_
              refine tl_step rfl (oj_val (y_assign fe_c) ?_)
              refine tl_nil ?_
              refine tx_then ?_
              refine tr_ret ?_
              refine tx_then_ret ?_
              refine tx_in_ret ?_
              refine tx_then_ret ?_
              refine tx_then_ret ?_
              refine tx_in_ret ?_
              refine tx_then_ret ?_
              refine tx_ret (res1 Try.results11 (rok_t rfl)) (fun w' hS => ?_)
              have hw := wrong_is hz (by omega) (by omega) (chk_r (by omega) (by omega)) (by decide)
              exact ⟨by rw [hw], hS.pick [] _ rfl (by decide)⟩
          · try (exfalso; omega)
            all_goals
              refine tl_want rfl rfl rfl (oj_val (y_fieldAddr (td := 3) Try.underlying26 rfl rfl Try.sizeOf3 (o' := 4) rfl (fe_t rfl)) ?_)
              refine tl_want rfl rfl rfl (oj_val (y_ldb 0 Try.isAgg3 (fe_t rfl) rfl rfl) ?_)
              refine tl_want rfl rfl rfl (oj_val (y_gtr (fe_t rfl) fe_c) ?_)
              refine tl_step rfl (oj_val (y_pickf (fe_t rfl) (fe_t rfl)) ?_)
              refine tl_nil ?_
              refine tx_then ?_
              refine tr_condp (fe_t rfl) (fun hq7 => ?_) (fun hq8 => ?_)
              · try (exfalso; omega)
                all_goals
                  refine tr_seq ?_
                  refine tr_region ?_
                  refine tl_step rfl (oj_val (y_assign fe_c) ?_)
                  refine tl_nil ?_
                  refine tx_then ?_
                  refine tr_ret ?_
                  refine tx_then_ret ?_
                  refine tx_in_ret ?_
                  refine tx_then_ret ?_
                  refine tx_then_ret ?_
                  refine tx_in_ret ?_
                  refine tx_then_ret ?_
                  refine tx_ret (res1 Try.results11 (rok_t rfl)) (fun w' hS => ?_)
                  have hw := wrong_is hz (by omega) (by omega) (chk_r (by omega) (by omega)) (by decide)
                  exact ⟨by rw [hw], hS.pick [] _ rfl (by decide)⟩
              · try (exfalso; omega)
                all_goals
                  refine tr_skip ?_
                  refine tx_then ?_
                  refine tr_seq ?_
                  refine tr_seq ?_
                  refine tb_draw 9 (sel _ [0]) (fun w h => h.sel _ rfl (by decide)) rfl ?_
                  refine tb_float (i := 0) rfl (by kernel_rfl) rfl (wants_none rfl) (yq_of (y_fieldAddr (td := 24) Try.underlying26 rfl rfl Try.sizeOf24 (o' := 0) rfl (fe_t rfl))) ?_
                  refine tb_float (i := 1) rfl (by kernel_rfl) rfl (wants_none rfl) (yq_of (y_ldbA 0 Try.isAgg24 Try.sizeOf24 (fe_t rfl) rfl rfl rfl)) ?_
                  refine tb_float (i := 2) rfl (by kernel_rfl) rfl (wants_none rfl) (yq_of (y_fieldAddr (td := 3) Try.underlying26 rfl rfl Try.sizeOf3 (o' := 4) rfl (fe_t rfl))) ?_
                  refine tb_float (i := 3) rfl (by kernel_rfl) rfl (wants_none rfl) (yq_of (y_ldb 0 Try.isAgg3 (fe_t rfl) rfl rfl)) ?_
                  refine tb_float (i := 4) rfl (by kernel_rfl) rfl (wants_none rfl) (yq_call Try.call51 fe_f (fel_cons (fe_t rfl) (fel_cons (fe_t rfl) fel_nil)) (fun w' hS => fbitsE (l.getD k pN).x (l.getD k pN).n w' hxk (by omega) (by omega))) ?_
                  refine tb_float (i := 5) rfl (by kernel_rfl) rfl (wants_none rfl) (yq_of (y_fieldAddr (td := 24) Try.underlying26 rfl rfl Try.sizeOf24 (o' := 0) rfl (fe_t rfl))) ?_
                  refine tb_float (i := 6) rfl (by kernel_rfl) rfl (wants_none rfl) (yq_of (y_ldbA 0 Try.isAgg24 Try.sizeOf24 (fe_t rfl) rfl rfl rfl)) ?_
                  refine tb_float (i := 7) rfl (by kernel_rfl) rfl (wants_none rfl) (yq_call Try.call51 fe_f (fel_cons (fe_t rfl) (fel_cons fe_c fel_nil)) (fun w' hS => fbitsE (l.getD k pN).x 32 w' hxk (by omega) (by omega))) ?_
                  refine tb_float (i := 8) rfl (by kernel_rfl) rfl (wants_none rfl) (yq_of (y_neq (fe_t rfl) (fe_t rfl))) ?_
                  refine tb_done (by kernel_rfl) ?_
                  refine tx_then ?_
                  refine tr_condp (fe_t rfl) (fun hq9 => ?_) (fun hq10 => ?_)
                  · try (exfalso; omega)
                    all_goals
                      refine tr_seq ?_
                      refine tr_region ?_
                      refine tl_step rfl (oj_val (y_assign fe_c) ?_)
                      refine tl_nil ?_
                      refine tx_then ?_
                      refine tr_ret ?_
                      refine tx_then_ret ?_
                      refine tx_in_ret ?_
                      refine tx_then_ret ?_
                      refine tx_then_ret ?_
                      refine tx_in_ret ?_
                      refine tx_then_ret ?_
                      refine tx_ret (res1 Try.results11 (rok_t rfl)) (fun w' hS => ?_)
                      have hw := wrong_is hz (by omega) (by omega) (chk_f (by omega) (by omega) (by omega) (fun h9 => absurd (show fb (l.getD k pN).x.v (l.getD k pN).n = fb (l.getD k pN).x.v 32 by rw [fb_full]; exact h9) (by assumption))) (by decide)
                      exact ⟨by rw [hw], hS.pick [] _ rfl (by decide)⟩
                  · try (exfalso; omega)
                    all_goals
                      have h9 : fb (l.getD k pN).x.v (l.getD k pN).n = fb (l.getD k pN).x.v 32 := Decidable.not_not.1 (by assumption)
                      have hff : fb (l.getD k pN).v (l.getD k pN).n = (l.getD k pN).v := by rw [fb_full] at h9; exact h9
                      refine tr_skip ?_
                      refine tx_then ?_
                      refine tr_seq ?_
                      refine tr_region ?_
                      refine tl_step rfl (oj_val (y_move (fe_t rfl)) ?_)
                      refine tl_step rfl (oj_val (y_move fe_c) ?_)
                      refine tl_nil ?_
                      refine tx_then ?_
                      refine tr_block ?_
                      refine tr_loop1 [2, 5, 34, 35, 36, 37, 38, 39, 40, 41, 42, 43, 44, 45, 46, 47, 48, 49, 50, 51, 52, 53, 54, 55, 56, 57] (fun (j : Nat) => [(34, .int .i64 (j : Int))]) 0 (fun (j : Nat) => []) (fun (j : Nat) => j ≤ k ∧ ∀ i, i < j → ¬ ((l.getD i pN).n = (l.getD k pN).n ∧ (l.getD i pN).v = (l.getD k pN).v)) (fun (j : Nat) => k - j) (0) (cov_cons (by first | rfl | exact v_int (by omega) | exact v_bool (by simp [*])) (cov_nil)) (fun w h => h) ?_ ?_
                      · try dsimp only
                        exact ⟨by omega, fun i hi => absurd hi (Nat.not_lt_zero _)⟩
                      intro j hp
                      obtain ⟨hj, hno⟩ := hp
                      refine tr_seq ?_
                      refine tr_region ?_
                      refine tl_step rfl (oj_val (y_lss (fe_t rfl) (fe_t rfl)) ?_)
                      refine tl_nil ?_
                      refine tx_then ?_
                      refine tr_seq ?_
                      refine tr_condp (fe_t rfl) (fun hq11 => ?_) (fun hq12 => ?_)
                      · try (exfalso; omega)
                        all_goals
                          refine tr_skip ?_
                          refine tx_then ?_
                          refine tr_seq ?_
                          refine tr_block ?_
                          refine tr_seq ?_
                          refine tr_region ?_
                          refine tl_step rfl (oj_val (y_move (fe_t rfl)) ?_)
                          refine tl_step rfl (oj_val (y_assign (fe_t rfl)) ?_)
                          refine tl_nil ?_
                          refine tx_then ?_
                          refine tr_seq ?_
                          refine tb_draw 20 (sel _ [0]) (fun w h => h.sel _ rfl (by decide)) rfl ?_
                          refine tb_float (i := 0) rfl (by kernel_rfl) rfl (wants_none rfl) (yq_of (y_move (fe_t rfl))) ?_
                          refine tb_float (i := 1) rfl (by kernel_rfl) rfl (wants_none rfl) (yq_of (y_move (fe_t rfl))) ?_
                          refine tb_float (i := 2) rfl (by kernel_rfl) rfl (wants_none rfl) (yq_of (y_index Try.underlying22 Try.sizeOf26 (fe_t rfl) (fe_t rfl) (rdl_out hr) (by rw [flat_len hcPx]; omega) (by decide) (by omega) rfl)) ?_
                          refine tb_float (i := 3) rfl (by kernel_rfl) rfl (wants_none rfl) (yq_of (y_fieldAddrE (td := 3) Try.underlying26 rfl rfl Try.sizeOf3 rfl (fe_t rfl) (rdl_out hr) (by rw [flat_len hcPx]; omega))) ?_
                          refine tb_float (i := 4) rfl (by kernel_rfl) rfl (wants_none rfl) (yq_of (y_ld Try.isAgg3 (fe_t rfl) (rdl_out hr) (flatG (d := pN) (i := 4) hcPx (by omega) rfl))) ?_
                          refine tb_float (i := 5) rfl (by kernel_rfl) rfl (wants_none rfl) (yq_of (y_fieldAddr (td := 3) Try.underlying26 rfl rfl Try.sizeOf3 (o' := 4) rfl (fe_t rfl))) ?_
                          refine tb_float (i := 6) rfl (by kernel_rfl) rfl (wants_none rfl) (yq_of (y_ldb 0 Try.isAgg3 (fe_t rfl) rfl rfl)) ?_
                          refine tb_float (i := 7) rfl (by kernel_rfl) rfl (wants_none rfl) (yq_of (y_eq (fe_t rfl) (fe_t rfl))) ?_
                          refine tb_float (i := 8) rfl (by kernel_rfl) rfl (wants_none rfl) (yq_of (y_move (fe_t rfl))) ?_
                          refine tb_splitp (d := 45) rfl (fun hq13 => ?_) (fun hq14 => ?_)
                          · try (exfalso; omega)
                            all_goals
                              refine tb_float (i := 9) rfl (by kernel_rfl) rfl (wants_t rfl rfl rfl) (yq_of (y_move (fe_t rfl))) ?_
                              refine tb_float (i := 10) rfl (by kernel_rfl) rfl (wants_t rfl rfl rfl) (yq_of (y_move (fe_t rfl))) ?_
                              refine tb_float (i := 11) rfl (by kernel_rfl) rfl (wants_t rfl rfl rfl) (yq_of (y_index Try.underlying22 Try.sizeOf26 (fe_t rfl) (fe_t rfl) (rdl_out hr) (by rw [flat_len hcPx]; omega) (by decide) (by omega) rfl)) ?_
                              refine tb_float (i := 12) rfl (by kernel_rfl) rfl (wants_t rfl rfl rfl) (yq_of (y_fieldAddrE (td := 24) Try.underlying26 rfl rfl Try.sizeOf24 rfl (fe_t rfl) (rdl_out hr) (by rw [flat_len hcPx]; omega))) ?_
                              refine tb_float (i := 13) rfl (by kernel_rfl) rfl (wants_t rfl rfl rfl) (yq_of (y_ldA (cs := cA (l.getD j pN).x) Try.isAgg24 Try.sizeOf24 (fe_t rfl) (rdl_out hr) rfl (by decide) (addr_at (by omega)))) ?_
                              refine tb_float (i := 14) rfl (by kernel_rfl) rfl (wants_t rfl rfl rfl) (yq_call Try.call51 fe_f (fel_cons (fe_t rfl) (fel_cons fe_c fel_nil)) (fun w' hS => fbitsE (l.getD j pN).x 32 w' (hok _ (by rw [getD_lt (by omega)]; exact List.getElem_mem _)) (by omega) (by omega))) ?_
                              refine tb_float (i := 15) rfl (by kernel_rfl) rfl (wants_t rfl rfl rfl) (yq_of (y_fieldAddr (td := 24) Try.underlying26 rfl rfl Try.sizeOf24 (o' := 0) rfl (fe_t rfl))) ?_
                              refine tb_float (i := 16) rfl (by kernel_rfl) rfl (wants_t rfl rfl rfl) (yq_of (y_ldbA 0 Try.isAgg24 Try.sizeOf24 (fe_t rfl) rfl rfl rfl)) ?_
                              refine tb_float (i := 17) rfl (by kernel_rfl) rfl (wants_t rfl rfl rfl) (yq_call Try.call51 fe_f (fel_cons (fe_t rfl) (fel_cons fe_c fel_nil)) (fun w' hS => fbitsE (l.getD k pN).x 32 w' hxk (by omega) (by omega))) ?_
                              refine tb_float (i := 18) rfl (by kernel_rfl) rfl (wants_t rfl rfl rfl) (yq_of (y_eq (fe_t rfl) (fe_t rfl))) ?_
                              refine tb_float (i := 19) rfl (by kernel_rfl) rfl (wants_none rfl) (yq_of (y_pickt (fe_t rfl) (fe_t rfl))) ?_
                              refine tb_done (by kernel_rfl) ?_
                              refine tx_then ?_
                              refine tr_condp (fe_t rfl) (fun hq15 => ?_) (fun hq16 => ?_)
                              · try (exfalso; omega)
                                all_goals
                                  refine tr_seq ?_
                                  refine tr_region ?_
                                  refine tl_step rfl (oj_val (y_assign fe_c) ?_)
                                  refine tl_nil ?_
                                  refine tx_then ?_
                                  refine tr_ret ?_
                                  refine tx_in_ret ?_
                                  refine tx_then_ret ?_
                                  refine tx_then_ret ?_
                                  refine tx_in_ret ?_
                                  refine tx_in_ret ?_
                                  refine tx_then_ret ?_
                                  refine tx_then_ret ?_
                                  refine tx_in_ret ?_
                                  refine tx_then_ret ?_
                                  refine tx_ret (res1 Try.results11 (rok_t rfl)) (fun w' hS => ?_)
                                  have hvv : (l.getD j pN).x.v = (l.getD k pN).x.v := by
                                    have h9 : fb (l.getD j pN).x.v 32 = fb (l.getD k pN).x.v 32 := by assumption
                                    rw [fb_full, fb_full] at h9
                                    exact h9
                                  have hdj : (l.getD j pN).n = (l.getD k pN).n ∧ (l.getD j pN).v = (l.getD k pN).v := ⟨by omega, hvv⟩
                                  have hw := wrong_is hz (by omega) (by omega) (chk_h (by omega) (by omega) (by omega) hff (i := j) (by omega) hdj) (by decide)
                                  exact ⟨by rw [hw], hS.pick [] _ rfl (by decide)⟩
                              · try (exfalso; omega)
                                all_goals
                                  refine tr_skip ?_
                                  refine tx_in ?_
                                  refine tx_then ?_
                                  refine tr_region ?_
                                  refine tl_step rfl (oj_val (y_inc (fe_t rfl) fe_c (by omega)) ?_)
                                  refine tl_step rfl (oj_val (y_move (fe_t rfl)) ?_)
                                  refine tl_nil ?_
                                  apply tx_back1 (j + 1)
                                  · exact (cov_cons (by first | rfl | exact v_int (by omega) | exact v_bool (by simp [*])) (cov_nil))
                                  · repeat (first | exact over_nil | refine over_put rfl ?_ | refine over_drop rfl ?_)
                                  · exact fun w h => h.pick [0] _ rfl (by decide)
                                  · refine ⟨⟨by omega, no_next hno (fun h9 => ?_)⟩, by omega⟩
                                    first
                                      | exact absurd h9.1 (by omega)
                                      | exact absurd (show fb (l.getD j pN).x.v 32 = fb (l.getD k pN).x.v 32 by rw [fb_full, fb_full]; exact h9.2) (by assumption)
                          · try (exfalso; omega)
                            all_goals
                              refine tb_skip (i := 9) rfl (by kernel_rfl) rfl (wants_f rfl rfl rfl rfl) ?_
                              refine tb_skip (i := 10) rfl (by kernel_rfl) rfl (wants_f rfl rfl rfl rfl) ?_
                              refine tb_skip (i := 11) rfl (by kernel_rfl) rfl (wants_f rfl rfl rfl rfl) ?_
                              refine tb_skip (i := 12) rfl (by kernel_rfl) rfl (wants_f rfl rfl rfl rfl) ?_
                              refine tb_skip (i := 13) rfl (by kernel_rfl) rfl (wants_f rfl rfl rfl rfl) ?_
                              refine tb_skip (i := 14) rfl (by kernel_rfl) rfl (wants_f rfl rfl rfl rfl) ?_
                              refine tb_skip (i := 15) rfl (by kernel_rfl) rfl (wants_f rfl rfl rfl rfl) ?_
                              refine tb_skip (i := 16) rfl (by kernel_rfl) rfl (wants_f rfl rfl rfl rfl) ?_
                              refine tb_skip (i := 17) rfl (by kernel_rfl) rfl (wants_f rfl rfl rfl rfl) ?_
                              refine tb_skip (i := 18) rfl (by kernel_rfl) rfl (wants_f rfl rfl rfl rfl) ?_
                              refine tb_float (i := 19) rfl (by kernel_rfl) rfl (wants_none rfl) (yq_of (y_pickf (fe_t rfl) fe_c)) ?_
                              refine tb_done (by kernel_rfl) ?_
                              refine tx_then ?_
                              refine tr_condf (fe_t rfl) ?_
                              refine tr_skip ?_
                              refine tx_in ?_
                              refine tx_then ?_
                              refine tr_region ?_
                              refine tl_step rfl (oj_val (y_inc (fe_t rfl) fe_c (by omega)) ?_)
                              refine tl_step rfl (oj_val (y_move (fe_t rfl)) ?_)
                              refine tl_nil ?_
                              apply tx_back1 (j + 1)
                              · exact (cov_cons (by first | rfl | exact v_int (by omega) | exact v_bool (by simp [*])) (cov_nil))
                              · repeat (first | exact over_nil | refine over_put rfl ?_ | refine over_drop rfl ?_)
                              · exact fun w h => h.pick [0] _ rfl (by decide)
                              · refine ⟨⟨by omega, no_next hno (fun h9 => ?_)⟩, by omega⟩
                                first
                                  | exact absurd h9.1 (by omega)
                                  | exact absurd (show fb (l.getD j pN).x.v 32 = fb (l.getD k pN).x.v 32 by rw [fb_full, fb_full]; exact h9.2) (by assumption)
                      · try (exfalso; omega)
                        all_goals
                          refine tr_exit ?_
                          refine tx_then_exit ?_
                          refine tx_then_exit ?_
                          refine tx_in_exit ?_
                          refine tx_in ?_
                          refine tx_then ?_
                          refine tr_region ?_
                          refine tl_step rfl (oj_val (y_inc (fe_t rfl) fe_c (by omega)) ?_)
                          refine tl_step rfl (oj_val (y_move (fe_t rfl)) ?_)
                          refine tl_nil ?_
                          apply tx_back1 (k + 1)
                          · exact (cov_cons (by first | rfl | exact v_int (by omega) | exact v_bool (by simp [*])) (cov_nil))
                          · repeat (first | exact over_nil | refine over_put rfl ?_ | refine over_drop rfl ?_)
                          · exact fun w h => h.pick [] _ rfl (by decide)
                          · exact ⟨⟨by omega, zero_next hz (chk_0 (by omega) (by omega) (by omega) hff (fun i hi => hno i (by omega)))⟩, by omega⟩
      · try (exfalso; omega)
        all_goals
          refine tr_exit ?_
          refine tx_then_exit ?_
          refine tx_then_exit ?_
          refine tx_in_exit ?_
          refine tx_then ?_
          refine tr_seq ?_
          refine tr_region ?_
          refine tl_step rfl (oj_val (y_assign fe_c) ?_)
          refine tl_nil ?_
          refine tx_then ?_
          refine tr_ret ?_
          refine tx_ret (res1 Try.results11 (rok_t rfl)) (fun w' hS => ?_)
          have hw := wrong_no (k := k) hz (by omega) (by omega)
          exact ⟨by rw [hw], hS.pick [] _ rfl (by decide)⟩

theorem fits_t {v : Int} {p : Pfx} (h : within v p.v p.n = true) : Fits p v := by
  simp only [within, Bool.and_eq_true, decide_eq_true_eq] at h
  exact h.2.symm
theorem fits_f {v : Int} {p : Pfx} (h : Fits p v) (hb : 0 ≤ p.n ∧ p.n ≤ 32) : within v p.v p.n = true := by
  simp only [within, Bool.and_eq_true, decide_eq_true_eq]
  exact ⟨hb, h.symm⟩

set_option maxRecDepth 100000 in
set_option maxHeartbeats 4000000 in
theorem ffindE (A : Option Addr) (n c : Nat) (l : List Pfx) (w : World) (hr : Rd w A (l.flatMap cPx)) (hn : l.length = n) (hm : n ≤ 140737488355328) (hc : n ≤ c) (hok : ∀ p ∈ l, p.x.ok) (hf : Fine l) (x : Ad) (hx : x.ok) :
    Calls Try.prog 15 #[.slice A n c, .agg #[.int .u8 x.a, .int .u8 x.b, .int .u8 x.c, .int .u8 x.d]] w fun e w' => ∃ q : Int × Bool, Best l x.v 33 q.1 q.2 ∧ e = .returned (.tuple #[(.int .i64 q.1), .bool q.2]) ∧ St w w' [] := by
  refine calls_tr Try.func15 Try.ntmps15 rfl rfl (St.refl _) ?_
  refine tr_seq ?_
  refine tr_region ?_
  refine tl_step rfl (oj_box (fe_t rfl) (fun xb => ?_))
  refine tl_step rfl (oj_val (y_assign fe_c) ?_)
  refine tl_step rfl (oj_val (y_assign fe_c) ?_)
  refine tl_nil ?_
  refine tx_then ?_
  refine tr_seq ?_
  refine tr_region ?_
  refine tl_step rfl (oj_val ((fun {u0} hx hb => y_build (is := [1]) (vs := [u0]) (cs := [.int .u8 0, .int .u8 0, .int .u8 0, .int .u8 0, u0, .int .i64 0]) rfl hx hb) (fel_cons (fe_c (v := .int .i64 (-1))) fel_nil) (by kernel_rfl)) ?_)
  refine tl_step rfl (oj_alloc Try.zeroValue26 (fun bb => ?_))
  refine tl_step rfl (oj_storeW 0 Try.sizeOf26 (fe_t rfl) (fe_t rfl) rfl rfl rfl rfl rfl (?_))
  refine tl_nil ?_
  refine tx_then ?_
  refine tr_seq ?_
  refine tr_seq ?_
  refine tr_region ?_
  refine tl_step rfl (oj_val (y_move (fe_t rfl)) ?_)
  refine tl_step rfl (oj_val (y_len Try.underlying22 (fe_t rfl)) ?_)
  refine tl_step rfl (oj_val (y_move fe_c) ?_)
  refine tl_nil ?_
  refine tx_then ?_
  refine tr_block ?_
  refine tr_loop2 [8, 12, 13, 14, 15, 16, 17, 18, 19, 20, 21, 22, 23, 24, 25, 26, 27] (fun (k : Nat) (q : Pfx) => [(12, .int .i64 (k : Int))]) 0 (fun (k : Nat) (q : Pfx) => [(0, blk bb [.int .u8 q.x.a, .int .u8 q.x.b, .int .u8 q.x.c, .int .u8 q.x.d, (.int .i64 q.n), (.int .i64 q.to)])]) (fun (k : Nat) (q : Pfx) => k ≤ n ∧ BestF l x.v k q.n q.to) (fun (k : Nat) (q : Pfx) => n - k) (0) ((⟨aN, -1, 0⟩ : Pfx)) (cov_cons (by first | rfl | exact v_int (by omega) | exact v_bool (by simp [*])) (cov_nil)) (fun w h => h) ?_ ?_
  · try dsimp only
    exact ⟨by omega, BestF.zero _ _⟩
  intro k q hp
  obtain ⟨hk, hb⟩ := hp
  refine tr_seq ?_
  refine tr_region ?_
  refine tl_step rfl (oj_val (y_lss (fe_t rfl) (fe_t rfl)) ?_)
  refine tl_nil ?_
  refine tx_then ?_
  refine tr_seq ?_
  refine tr_condp (fe_t rfl) (fun hq1 => ?_) (fun hq2 => ?_)
  · try (exfalso; omega)
    all_goals
      have hxk : (l.getD k pN).x.ok := hok _ (by rw [getD_lt (by omega)]; exact List.getElem_mem _)
      have hlk : (l.getD k pN) = l[k]'(by omega) := getD_lt (by omega)
      have hlm : (l.getD k pN) ∈ l := by rw [hlk]; exact List.getElem_mem _
      refine tr_skip ?_
      refine tx_then ?_
      refine tr_seq ?_
      refine tr_block ?_
      refine tr_seq ?_
      refine tr_region ?_
      refine tl_step rfl (oj_val (y_index Try.underlying22 Try.sizeOf26 (fe_t rfl) (fe_t rfl) (rdl_out hr) (by rw [flat_len hcPx]; omega) (by decide) (by omega) rfl) ?_)
      refine tl_step rfl (oj_val (y_ldA (cs := cPx (l.getD k pN)) Try.isAgg26 Try.sizeOf26 (fe_t rfl) (rdl_out hr) rfl (by decide) (flatGA (d := pN) hcPx (by omega))) ?_)
      refine tl_step rfl (oj_alloc Try.zeroValue26 (fun pb => ?_))
      refine tl_step rfl (oj_storeW 0 Try.sizeOf26 (fe_t rfl) (fe_t rfl) rfl rfl rfl rfl rfl (?_))
      refine tl_nil ?_
      refine tx_then ?_
      refine tr_seq ?_
      refine tr_region ?_
      refine tl_step rfl (oj_val (y_fieldAddr (td := 3) Try.underlying26 rfl rfl Try.sizeOf3 (o' := 4) rfl (fe_t rfl)) ?_)
      refine tl_step rfl (oj_val (y_ldb 0 Try.isAgg3 (fe_t rfl) rfl rfl) ?_)
      refine tl_step rfl (oj_val (y_fieldAddr (td := 3) Try.underlying26 rfl rfl Try.sizeOf3 (o' := 4) rfl (fe_t rfl)) ?_)
      refine tl_step rfl (oj_val (y_ldb 1 Try.isAgg3 (fe_t rfl) rfl rfl) ?_)
      refine tl_step rfl (oj_val (y_gtr (fe_t rfl) (fe_t rfl)) ?_)
      refine tl_step rfl (oj_val (y_move (fe_t rfl)) ?_)
      refine tl_splitp (d := 21) rfl (fun hq3 => ?_) (fun hq4 => ?_)
      · try (exfalso; omega)
        all_goals
          refine tl_want rfl rfl rfl (oj_val (y_ldbA 2 Try.isAgg24 Try.sizeOf24 (fe_t rfl) rfl rfl rfl) ?_)
          refine tl_want rfl rfl rfl (oj_val (y_ldbA 0 Try.isAgg26 Try.sizeOf26 (fe_t rfl) rfl rfl rfl) ?_)
          refine tl_want rfl rfl rfl (oj_callv Try.call14 fe_f (fel_cons (fe_t rfl) (fel_cons (fe_t rfl) fel_nil)) (fun w' hS => fwithinE x (l.getD k pN) hx hxk w') ?_)
          refine tl_step rfl (oj_val (y_pickt (fe_t rfl) (fe_t rfl)) ?_)
          refine tl_nil ?_
          refine tx_then ?_
          refine tr_cond (fe_t rfl) (fun hq5 => ?_) (fun hq6 => ?_)
          · try (exfalso; omega)
            all_goals
              refine tr_region ?_
              refine tl_step rfl (oj_val (y_ldbA 0 Try.isAgg26 Try.sizeOf26 (fe_t rfl) rfl rfl rfl) ?_)
              refine tl_step rfl (oj_storeW 1 Try.sizeOf26 (fe_t rfl) (fe_t rfl) rfl rfl rfl rfl rfl (?_))
              refine tl_nil ?_
              refine tx_in ?_
              refine tx_then ?_
              refine tr_region ?_
              refine tl_step rfl (oj_val (y_inc (fe_t rfl) fe_c (by omega)) ?_)
              refine tl_step rfl (oj_val (y_move (fe_t rfl)) ?_)
              refine tl_nil ?_
              apply tx_back2 (k + 1) ((l.getD k pN))
              · exact (cov_cons (by first | rfl | exact v_int (by omega) | exact v_bool (by simp [*])) (cov_nil))
              · repeat (first | exact over_nil | refine over_put rfl ?_ | refine over_drop rfl ?_)
              · exact fun w h => h.pick [1, 2] _ rfl (by decide)
              · first
                  | exact ⟨⟨by omega, hlk ▸ hb.take (by omega) (by rw [← hlk]; omega) (by rw [← hlk]; exact fits_t (by assumption))⟩, by omega⟩
                  | exact ⟨⟨by omega, hb.leave hf (by omega) (fun h9 => by rw [← hlk] at h9; first | omega | exact Bool.false_ne_true ((by assumption : within x.v (l.getD k pN).v (l.getD k pN).n = false).symm.trans (fits_f h9.2 (hf.bits _ hlm))))⟩, by omega⟩
          · try (exfalso; omega)
            all_goals
              refine tr_skip ?_
              refine tx_in ?_
              refine tx_then ?_
              refine tr_region ?_
              refine tl_step rfl (oj_val (y_inc (fe_t rfl) fe_c (by omega)) ?_)
              refine tl_step rfl (oj_val (y_move (fe_t rfl)) ?_)
              refine tl_nil ?_
              apply tx_back2 (k + 1) (q)
              · exact (cov_cons (by first | rfl | exact v_int (by omega) | exact v_bool (by simp [*])) (cov_nil))
              · repeat (first | exact over_nil | refine over_put rfl ?_ | refine over_drop rfl ?_)
              · exact fun w h => h.pick [1, 2] _ rfl (by decide)
              · first
                  | exact ⟨⟨by omega, hlk ▸ hb.take (by omega) (by rw [← hlk]; omega) (by rw [← hlk]; exact fits_t (by assumption))⟩, by omega⟩
                  | exact ⟨⟨by omega, hb.leave hf (by omega) (fun h9 => by rw [← hlk] at h9; first | omega | exact Bool.false_ne_true ((by assumption : within x.v (l.getD k pN).v (l.getD k pN).n = false).symm.trans (fits_f h9.2 (hf.bits _ hlm))))⟩, by omega⟩
      · try (exfalso; omega)
        all_goals
          refine tl_skip rfl rfl rfl rfl ?_
          refine tl_skip rfl rfl rfl rfl ?_
          refine tl_skip rfl rfl rfl rfl ?_
          refine tl_step rfl (oj_val (y_pickf (fe_t rfl) fe_c) ?_)
          refine tl_nil ?_
          refine tx_then ?_
          refine tr_condf (fe_t rfl) ?_
          refine tr_skip ?_
          refine tx_in ?_
          refine tx_then ?_
          refine tr_region ?_
          refine tl_step rfl (oj_val (y_inc (fe_t rfl) fe_c (by omega)) ?_)
          refine tl_step rfl (oj_val (y_move (fe_t rfl)) ?_)
          refine tl_nil ?_
          apply tx_back2 (k + 1) (q)
          · exact (cov_cons (by first | rfl | exact v_int (by omega) | exact v_bool (by simp [*])) (cov_nil))
          · repeat (first | exact over_nil | refine over_put rfl ?_ | refine over_drop rfl ?_)
          · exact fun w h => h.pick [1, 2] _ rfl (by decide)
          · first
              | exact ⟨⟨by omega, hlk ▸ hb.take (by omega) (by rw [← hlk]; omega) (by rw [← hlk]; exact fits_t (by assumption))⟩, by omega⟩
              | exact ⟨⟨by omega, hb.leave hf (by omega) (fun h9 => by rw [← hlk] at h9; first | omega | exact Bool.false_ne_true ((by assumption : within x.v (l.getD k pN).v (l.getD k pN).n = false).symm.trans (fits_f h9.2 (hf.bits _ hlm))))⟩, by omega⟩
  · try (exfalso; omega)
    all_goals
      refine tr_exit ?_
      refine tx_then_exit ?_
      refine tx_then_exit ?_
      refine tx_in_exit ?_
      refine tx_then ?_
      refine tr_seq ?_
      refine tb_draw 7 (sel _ [0, 1]) (fun w h => h.sel _ rfl (by decide)) rfl ?_
      refine tb_float (i := 0) rfl (by kernel_rfl) rfl (wants_none rfl) (yq_of (y_fieldAddr (td := 3) Try.underlying26 rfl rfl Try.sizeOf3 (o' := 5) rfl (fe_t rfl))) ?_
      refine tb_float (i := 1) rfl (by kernel_rfl) rfl (wants_none rfl) (yq_of (y_ldb 0 Try.isAgg3 (fe_t rfl) rfl rfl)) ?_
      refine tb_float (i := 2) rfl (by kernel_rfl) rfl (wants_none rfl) (yq_of (y_fieldAddr (td := 3) Try.underlying26 rfl rfl Try.sizeOf3 (o' := 4) rfl (fe_t rfl))) ?_
      refine tb_float (i := 3) rfl (by kernel_rfl) rfl (wants_none rfl) (yq_of (y_ldb 0 Try.isAgg3 (fe_t rfl) rfl rfl)) ?_
      refine tb_float (i := 4) rfl (by kernel_rfl) rfl (wants_none rfl) (yq_of (y_geq (fe_t rfl) fe_c)) ?_
      refine tb_float (i := 5) rfl (by kernel_rfl) rfl (wants_none rfl) (yq_of (y_assign (fe_t rfl))) ?_
      refine tb_float (i := 6) rfl (by kernel_rfl) rfl (wants_none rfl) (yq_of (y_assign (fe_t rfl))) ?_
      refine tb_done (by kernel_rfl) ?_
      refine tx_then ?_
      refine tr_ret ?_
      refine tx_ret (res2 Try.results15 (rok_t rfl) (rok_t rfl)) (fun w' hS => ?_)
      exact ⟨(q.to, decide (0 ≤ q.n)), hb.best hf (by omega), rfl, hS.pick [] _ rfl (by decide)⟩

end Go.Proofs.Ytpknjfeiiaopgaa.Trie
