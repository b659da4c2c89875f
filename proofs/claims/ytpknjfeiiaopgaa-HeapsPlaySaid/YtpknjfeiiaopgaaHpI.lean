/- Walks: CPlay. -/
import Derived.Test.YtpknjfeiiaopgaaHpG
namespace Go.Proofs.Ytpknjfeiiaopgaa.Heap
open Go.RowKit Go.Proofs.Ytpknjfeiiaopgaa.E Go.Proofs.Ytpknjfeiiaopgaa.Big

set_option maxRecDepth 100000 in
set_option maxHeartbeats 16000000 in
theorem cplayE (A : Option Addr) (n c : Nat) (os : List Op4) (w : World) (hr : Rd w A (os.flatMap c4)) (hn : os.length = n) (hm : n ≤ 4398046511103) :
    Calls Try.prog 23 #[.slice A n c] w fun e w' => ∃ r : PR, PRok n (run os) r ∧ e = .returned (.tuple #[.slice r.e.A r.e.n r.e.c, .slice r.p.A r.p.n r.p.c, .slice r.d.A r.d.n r.k]) ∧ St w w' [vec 29 1 (.slice r.e.A r.e.n r.e.c) r.e.n r.e.xs, vec 3 1 (.slice r.p.A r.p.n r.p.c) r.p.n r.p.xs, vec 3 1 (.slice r.d.A r.d.n r.d.c) r.d.n r.d.xs] := by
  refine calls_tr Try.func23 Try.ntmps23 rfl rfl (St.refl _) ?_
  refine tr_seq ?_
  refine tr_region ?_
  refine tl_step rfl (oj_val (y_assign fe_c) ?_)
  refine tl_step rfl (oj_val (y_assign fe_c) ?_)
  refine tl_step rfl (oj_val (y_assign fe_c) ?_)
  refine tl_nil ?_
  refine tx_then ?_
  refine tr_seq ?_
  refine tr_region ?_
  refine tl_step rfl (oj_makeMap (fun b_mp => ?_))
  refine tl_step rfl (oj_alloc Try.zeroValue128 (fun kb => ?_))
  refine tl_step rfl (oj_store1 0 Try.sizeOf128 (fe_t rfl) (fe_t rfl) rfl rfl rfl rfl (?_))
  refine tl_nil ?_
  refine tx_then ?_
  refine tr_seq ?_
  refine tr_region ?_
  refine tl_step rfl (oj_val (y_makeFunc (fel_cons (fe_t rfl) fel_nil)) ?_)
  refine tl_step rfl (oj_val (y_assign (fe_t rfl)) ?_)
  refine tl_nil ?_
  refine tx_then ?_
  refine tr_seq ?_
  refine tr_region ?_
  refine tl_step rfl (oj_val (y_assign fe_c) ?_)
  refine tl_nil ?_
  refine tx_then ?_
  refine tr_seq ?_
  refine tr_region ?_
  refine tl_step rfl (oj_val (y_assign fe_c) ?_)
  refine tl_step rfl (oj_val (y_assign fe_c) ?_)
  refine tl_nil ?_
  refine tx_then ?_
  refine tr_seq ?_
  refine tr_seq ?_
  refine tr_region ?_
  refine tl_step rfl (oj_val (y_move (fe_t rfl)) ?_)
  refine tl_step rfl (oj_val (y_len Try.underlying46 (fe_t rfl)) ?_)
  refine tl_step rfl (oj_val (y_move fe_c) ?_)
  refine tl_nil ?_
  refine tx_then ?_
  refine tr_block ?_
  refine tr_add (r := vec 29 1 (.slice none 0 0) 0 []) vec_nil rfl ?_
  refine tr_add (r := vec 3 1 (.slice none 0 0) 0 []) vec_nil rfl ?_
  refine tr_loop5 [7, 8, 11, 12, 13, 14, 15, 21, 22, 23, 24, 25, 26, 27, 28, 29, 30, 31, 32, 33, 34, 35, 36, 37, 38, 39, 40, 41, 42, 43, 44, 45, 46, 47, 48, 49, 50, 51, 52, 53, 54, 55, 56, 57, 58, 59, 60, 61, 62, 63, 64, 65, 66, 67, 68, 69, 70, 71, 72, 73, 74, 75, 76, 77, 78, 79, 80, 81, 82, 83, 84, 85, 86, 87, 88, 89, 90, 91, 92] (fun (i : Nat) (s : Rn) (m1 : Mp) (e1 : Vs) (p1 : Vs) => [(21, .int .i64 (i : Int)), (7, .slice e1.A e1.n e1.c), (8, .slice p1.A p1.n p1.c)]) 0 (fun (i : Nat) (s : Rn) (m1 : Mp) (e1 : Vs) (p1 : Vs) => [(3, mpR b_mp m1 []), (1, vec 29 1 (.slice e1.A e1.n e1.c) e1.n e1.xs), (0, vec 3 1 (.slice p1.A p1.n p1.c) p1.n p1.xs)]) (fun (i : Nat) (s : Rn) (m1 : Mp) (e1 : Vs) (p1 : Vs) => i ≤ n ∧ s = run (os.take i) ∧ Mr m1 s.f ∧ m1.length ≤ i ∧ (e1.n = i ∧ s.errs.length = i) ∧ e1.xs = cI s.errs ∧ p1.n = s.pops.length ∧ p1.xs = cI s.pops ∧ p1.n ≤ i) (fun (i : Nat) (s : Rn) (m1 : Mp) (e1 : Vs) (p1 : Vs) => n - i) (0) ((⟨fun _ => none, [], []⟩ : Rn)) ([]) (⟨none, 0, 0, []⟩ : Vs) (⟨none, 0, 0, []⟩ : Vs) (cov_cons (by first | rfl | exact v_int (by omega) | exact v_bool (by simp [*])) (cov_cons (by first | rfl | exact v_int (by omega) | exact v_bool (by simp [*])) (cov_cons (by first | rfl | exact v_int (by omega) | exact v_bool (by simp [*])) (cov_nil)))) (fun w h => h) ?_ ?_
  · try dsimp only
    exact ⟨by omega, rfl, Mr.nil, Nat.le_refl _, ⟨rfl, rfl⟩, rfl, rfl, rfl, Nat.le_refl _⟩
  intro i s m1 e1 p1 hp
  obtain ⟨hi, hs, hmr, hml, ⟨hen, hel⟩, hex, hpn, hpx, hpi⟩ := hp
  refine tr_seq ?_
  refine tr_region ?_
  refine tl_step rfl (oj_val (y_lss (fe_t rfl) (fe_t rfl)) ?_)
  refine tl_nil ?_
  refine tx_then ?_
  refine tr_seq ?_
  refine tr_condp (fe_t rfl) (fun hq1 => ?_) (fun hq2 => ?_)
  · try (exfalso; omega)
    all_goals
      refine tr_skip ?_
      refine tx_then ?_
      refine tr_seq ?_
      refine tr_block ?_
      refine tr_seq ?_
      refine tr_region ?_
      refine tl_step rfl (oj_val (y_index Try.underlying46 Try.sizeOf121 (fe_t rfl) (fe_t rfl) (rdl_out hr) (by rw [flat_len hc4]; omega) (by decide) (by omega) rfl) ?_)
      refine tl_step rfl (oj_val (y_ldA (cs := c4 (os.getD i o0)) Try.isAgg121 Try.sizeOf121 (fe_t rfl) (rdl_out hr) rfl (by decide) (flatGA (d := o0) hc4 (by omega))) ?_)
      refine tl_step rfl (oj_alloc Try.zeroValue121 (fun bo => ?_))
      refine tl_step rfl (oj_storeW 0 Try.sizeOf121 (fe_t rfl) (fe_t rfl) rfl rfl rfl rfl rfl (?_))
      refine tl_nil ?_
      refine tx_then ?_
      refine tr_seq ?_
      refine tr_region ?_
      refine tl_step rfl (oj_val (y_assign fe_c) ?_)
      refine tl_nil ?_
      refine tx_then ?_
      refine tr_seq ?_
      obtain ⟨cb, hcv, _⟩ := hmr.val (os.getD i o0).id
      refine tr_region ?_
      refine tl_step rfl (oj_val (y_ldb 3 Try.isAgg128 (fe_t rfl) rfl rfl) ?_)
      refine tl_step rfl (oj_val (y_fieldAddr (td := 3) Try.underlying121 rfl rfl Try.sizeOf3 (o' := 1) rfl (fe_t rfl)) ?_)
      refine tl_step rfl (oj_val (y_ldb 0 Try.isAgg3 (fe_t rfl) rfl rfl) ?_)
      refine tl_step rfl (oj_val (y_lookup2A 4 Try.underlying128 Try.underlying3 Try.zeroValue119 (fe_t rfl) (fe_t rfl) rfl hcv) ?_)
      refine tl_step rfl (oj_val (y_move (fe_t rfl)) ?_)
      refine tl_step rfl (oj_val (y_extract (fe_t rfl) rfl) ?_)
      refine tl_step rfl (oj_val (y_extract (fe_t rfl) rfl) ?_)
      refine tl_step rfl (oj_alloc Try.zeroValue119 (fun bk => ?_))
      refine tl_step rfl (oj_storeW 0 Try.sizeOf119 (fe_t rfl) (fe_t rfl) rfl rfl rfl rfl rfl (?_))
      refine tl_step rfl (oj_val (y_assign (fe_t rfl)) ?_)
      refine tl_nil ?_
      refine tx_then ?_
      refine tr_seq ?_
      refine tr_block ?_
      refine tr_seq ?_
      refine tr_region ?_
      refine tl_step rfl (oj_val (y_fieldAddr (td := 3) Try.underlying121 rfl rfl Try.sizeOf3 (o' := 0) rfl (fe_t rfl)) ?_)
      refine tl_step rfl (oj_val (y_ldb 1 Try.isAgg3 (fe_t rfl) rfl rfl) ?_)
      refine tl_step rfl (oj_val (y_lss (fe_t rfl) fe_c) ?_)
      refine tl_step rfl (oj_val (y_move (fe_t rfl)) ?_)
      refine tl_splitp (d := 41) rfl (fun hq3 => ?_) (fun hq4 => ?_)
      · try (exfalso; omega)
        all_goals
          refine tl_skip rfl rfl rfl rfl ?_
          refine tl_skip rfl rfl rfl rfl ?_
          refine tl_skip rfl rfl rfl rfl ?_
          refine tl_step rfl (oj_val (y_pickt (fe_t rfl) fe_c) ?_)
          refine tl_step rfl (oj_val (y_assign (fe_t rfl)) ?_)
          refine tl_nil ?_
          refine tx_then ?_
          refine tr_condt (fe_t rfl) ?_
          obtain ⟨p1, p2, p3⟩ := bad (err_k (f := s.f) (o := (os.getD i o0)) (by omega)) (by decide)
          refine tr_region ?_
          refine tl_step rfl (oj_val (y_assign fe_c) ?_)
          refine tl_nil ?_
          refine tx_in ?_
          refine tx_then ?_
          refine tr_region ?_
          refine tl_step rfl (oj_val (y_move (fe_t rfl)) ?_)
          refine tl_step rfl (oj_val (y_move (fe_t rfl)) ?_)
          refine tl_step rfl (oj_slice1 Try.underlying47 Try.sizeOf29 Try.zeroValue29 (fe_t rfl) (by decide) rfl (fun b1 => ?_))
          refine tl_step rfl (oj_appendB (i := 4) (s := 1) (z := (.int .i64 0)) (bytes := 8) Try.underlying47 (by kernel_rfl) (fe_t rfl) (fe_t rfl) rfl (rdl_blk 0 rfl) rfl (by decide) (by first | exact oneI | exact oneF (fun _ => rfl) | exact fun u hu => List.all_eq_true.1 (show List.all _ (fun x => x.oneCell') = true from rfl) u hu | (intro u hu; revert u hu; simp [Value.oneCell'])) (by decide) ⟨by omega, by decide⟩ (fun Aa1 ca1 hca1 => ?_))
          refine tl_step rfl (oj_val (y_assign (fe_t rfl)) ?_)
          refine tl_nil ?_
          refine tx_in ?_
          refine tx_then ?_
          refine tr_region ?_
          refine tl_step rfl (oj_val (y_inc (fe_t rfl) fe_c (by omega)) ?_)
          refine tl_step rfl (oj_val (y_move (fe_t rfl)) ?_)
          refine tl_nil ?_
          apply tx_back5 (i + 1) (go s (os.getD i o0)) (_) ((⟨_, _, _, _⟩ : Vs)) ((⟨_, _, _, _⟩ : Vs))
          · exact (cov_cons (by first | rfl | exact v_int (by omega) | exact v_bool (by simp [*])) (cov_cons (by first | rfl | exact v_int (by omega) | exact v_bool (by simp [*])) (cov_cons (by first | rfl | exact v_int (by omega) | exact v_bool (by simp [*])) (cov_nil))))
          · repeat (first | exact over_nil | refine over_put rfl ?_ | refine over_drop rfl ?_)
          · exact fun w h => h.pick [3, 4, 5, 6] _ rfl (by decide)
          · exact ⟨⟨by omega, by rw [hs]; exact (run_next (by omega)).symm, by rw [go_f, p3]; exact hmr, by omega, ⟨by dsimp only; omega, by rw [go_errs]; simp; omega⟩, by rw [go_errs, ← p2, ← cI_app, ← hex]; rfl, by rw [go_stay (fun h9 => by have h8 := h9.1; rw [← p2] at h8; exact absurd h8 (by decide))]; exact hpn, by rw [go_stay (fun h9 => by have h8 := h9.1; rw [← p2] at h8; exact absurd h8 (by decide))]; exact hpx, by dsimp only; omega⟩, by omega⟩
      · try (exfalso; omega)
        all_goals
          refine tl_want rfl rfl rfl (oj_val (y_fieldAddr (td := 3) Try.underlying121 rfl rfl Try.sizeOf3 (o' := 0) rfl (fe_t rfl)) ?_)
          refine tl_want rfl rfl rfl (oj_val (y_ldb 1 Try.isAgg3 (fe_t rfl) rfl rfl) ?_)
          refine tl_want rfl rfl rfl (oj_val (y_gtr (fe_t rfl) fe_c) ?_)
          refine tl_step rfl (oj_val (y_pickf (fe_t rfl) (fe_t rfl)) ?_)
          refine tl_step rfl (oj_val (y_assign (fe_t rfl)) ?_)
          refine tl_nil ?_
          refine tx_then ?_
          refine tr_condp (fe_t rfl) (fun hq5 => ?_) (fun hq6 => ?_)
          · try (exfalso; omega)
            all_goals
              obtain ⟨p1, p2, p3⟩ := bad (err_k (f := s.f) (o := (os.getD i o0)) (by omega)) (by decide)
              refine tr_region ?_
              refine tl_step rfl (oj_val (y_assign fe_c) ?_)
              refine tl_nil ?_
              refine tx_in ?_
              refine tx_then ?_
              refine tr_region ?_
              refine tl_step rfl (oj_val (y_move (fe_t rfl)) ?_)
              refine tl_step rfl (oj_val (y_move (fe_t rfl)) ?_)
              refine tl_step rfl (oj_slice1 Try.underlying47 Try.sizeOf29 Try.zeroValue29 (fe_t rfl) (by decide) rfl (fun b2 => ?_))
              refine tl_step rfl (oj_appendB (i := 4) (s := 1) (z := (.int .i64 0)) (bytes := 8) Try.underlying47 (by kernel_rfl) (fe_t rfl) (fe_t rfl) rfl (rdl_blk 0 rfl) rfl (by decide) (by first | exact oneI | exact oneF (fun _ => rfl) | exact fun u hu => List.all_eq_true.1 (show List.all _ (fun x => x.oneCell') = true from rfl) u hu | (intro u hu; revert u hu; simp [Value.oneCell'])) (by decide) ⟨by omega, by decide⟩ (fun Aa2 ca2 hca2 => ?_))
              refine tl_step rfl (oj_val (y_assign (fe_t rfl)) ?_)
              refine tl_nil ?_
              refine tx_in ?_
              refine tx_then ?_
              refine tr_region ?_
              refine tl_step rfl (oj_val (y_inc (fe_t rfl) fe_c (by omega)) ?_)
              refine tl_step rfl (oj_val (y_move (fe_t rfl)) ?_)
              refine tl_nil ?_
              apply tx_back5 (i + 1) (go s (os.getD i o0)) (_) ((⟨_, _, _, _⟩ : Vs)) ((⟨_, _, _, _⟩ : Vs))
              · exact (cov_cons (by first | rfl | exact v_int (by omega) | exact v_bool (by simp [*])) (cov_cons (by first | rfl | exact v_int (by omega) | exact v_bool (by simp [*])) (cov_cons (by first | rfl | exact v_int (by omega) | exact v_bool (by simp [*])) (cov_nil))))
              · repeat (first | exact over_nil | refine over_put rfl ?_ | refine over_drop rfl ?_)
              · exact fun w h => h.pick [3, 4, 5, 6] _ rfl (by decide)
              · exact ⟨⟨by omega, by rw [hs]; exact (run_next (by omega)).symm, by rw [go_f, p3]; exact hmr, by omega, ⟨by dsimp only; omega, by rw [go_errs]; simp; omega⟩, by rw [go_errs, ← p2, ← cI_app, ← hex]; rfl, by rw [go_stay (fun h9 => by have h8 := h9.1; rw [← p2] at h8; exact absurd h8 (by decide))]; exact hpn, by rw [go_stay (fun h9 => by have h8 := h9.1; rw [← p2] at h8; exact absurd h8 (by decide))]; exact hpx, by dsimp only; omega⟩, by omega⟩
          · try (exfalso; omega)
            all_goals
              refine tr_seq ?_
              refine tr_region ?_
              refine tl_step rfl (oj_val (y_fieldAddr (td := 3) Try.underlying121 rfl rfl Try.sizeOf3 (o' := 0) rfl (fe_t rfl)) ?_)
              refine tl_step rfl (oj_val (y_ldb 1 Try.isAgg3 (fe_t rfl) rfl rfl) ?_)
              refine tl_step rfl (oj_val (y_eq (fe_t rfl) fe_c) ?_)
              refine tl_step rfl (oj_val (y_move (fe_t rfl)) ?_)
              refine tl_splitp (d := 50) rfl (fun hq7 => ?_) (fun hq8 => ?_)
              · try (exfalso; omega)
                all_goals
                  refine tl_want rfl rfl rfl (oj_val (y_move (fe_t rfl)) ?_)
                  refine tl_step rfl (oj_val (y_pickt (fe_t rfl) (fe_t rfl)) ?_)
                  refine tl_step rfl (oj_val (y_assign (fe_t rfl)) ?_)
                  refine tl_nil ?_
                  refine tx_then ?_
                  refine tr_cond (fe_t rfl) (fun hq9 => ?_) (fun hq10 => ?_)
                  · try (exfalso; omega)
                    all_goals
                      obtain ⟨p1, p2, p3⟩ := bad (err_1d (f := s.f) (o := (os.getD i o0)) (by omega) (hmr.yes (by first | assumption | (have h9 := ‹(!(mget m1 (os.getD i o0).id).isSome) = false›; simpa using h9)))) (by decide)
                      refine tr_region ?_
                      refine tl_step rfl (oj_val (y_assign fe_c) ?_)
                      refine tl_nil ?_
                      refine tx_in ?_
                      refine tx_then ?_
                      refine tr_region ?_
                      refine tl_step rfl (oj_val (y_move (fe_t rfl)) ?_)
                      refine tl_step rfl (oj_val (y_move (fe_t rfl)) ?_)
                      refine tl_step rfl (oj_slice1 Try.underlying47 Try.sizeOf29 Try.zeroValue29 (fe_t rfl) (by decide) rfl (fun b3 => ?_))
                      refine tl_step rfl (oj_appendB (i := 4) (s := 1) (z := (.int .i64 0)) (bytes := 8) Try.underlying47 (by kernel_rfl) (fe_t rfl) (fe_t rfl) rfl (rdl_blk 0 rfl) rfl (by decide) (by first | exact oneI | exact oneF (fun _ => rfl) | exact fun u hu => List.all_eq_true.1 (show List.all _ (fun x => x.oneCell') = true from rfl) u hu | (intro u hu; revert u hu; simp [Value.oneCell'])) (by decide) ⟨by omega, by decide⟩ (fun Aa3 ca3 hca3 => ?_))
                      refine tl_step rfl (oj_val (y_assign (fe_t rfl)) ?_)
                      refine tl_nil ?_
                      refine tx_in ?_
                      refine tx_then ?_
                      refine tr_region ?_
                      refine tl_step rfl (oj_val (y_inc (fe_t rfl) fe_c (by omega)) ?_)
                      refine tl_step rfl (oj_val (y_move (fe_t rfl)) ?_)
                      refine tl_nil ?_
                      apply tx_back5 (i + 1) (go s (os.getD i o0)) (_) ((⟨_, _, _, _⟩ : Vs)) ((⟨_, _, _, _⟩ : Vs))
                      · exact (cov_cons (by first | rfl | exact v_int (by omega) | exact v_bool (by simp [*])) (cov_cons (by first | rfl | exact v_int (by omega) | exact v_bool (by simp [*])) (cov_cons (by first | rfl | exact v_int (by omega) | exact v_bool (by simp [*])) (cov_nil))))
                      · repeat (first | exact over_nil | refine over_put rfl ?_ | refine over_drop rfl ?_)
                      · exact fun w h => h.pick [3, 4, 5, 6] _ rfl (by decide)
                      · exact ⟨⟨by omega, by rw [hs]; exact (run_next (by omega)).symm, by rw [go_f, p3]; exact hmr, by omega, ⟨by dsimp only; omega, by rw [go_errs]; simp; omega⟩, by rw [go_errs, ← p2, ← cI_app, ← hex]; rfl, by rw [go_stay (fun h9 => by have h8 := h9.1; rw [← p2] at h8; exact absurd h8 (by decide))]; exact hpn, by rw [go_stay (fun h9 => by have h8 := h9.1; rw [← p2] at h8; exact absurd h8 (by decide))]; exact hpx, by dsimp only; omega⟩, by omega⟩
                  · try (exfalso; omega)
                    all_goals
                      refine tr_seq ?_
                      refine tr_seq ?_
                      refine tr_region ?_
                      refine tl_step rfl (oj_val (y_fieldAddr (td := 3) Try.underlying121 rfl rfl Try.sizeOf3 (o' := 0) rfl (fe_t rfl)) ?_)
                      refine tl_step rfl (oj_val (y_ldb 1 Try.isAgg3 (fe_t rfl) rfl rfl) ?_)
                      refine tl_step rfl (oj_val (y_eq (fe_t rfl) fe_c) ?_)
                      refine tl_step rfl (oj_val (y_move (fe_t rfl)) ?_)
                      refine tl_splitp (d := 57) rfl (fun hq11 => ?_) (fun hq12 => ?_)
                      · try (exfalso; omega)
                        all_goals
                          refine tl_want rfl rfl rfl (oj_val (y_ldb 4 Try.isAgg128 (fe_t rfl) rfl rfl) ?_)
                          refine tl_want rfl rfl rfl (oj_val (y_mlen 5 Try.underlying128 (fe_t rfl) rfl) ?_)
                          refine tl_want rfl rfl rfl (oj_val (y_eq (fe_t rfl) fe_c) ?_)
                          refine tl_step rfl (oj_val (y_pickt (fe_t rfl) (fe_t rfl)) ?_)
                          refine tl_step rfl (oj_val (y_assign (fe_t rfl)) ?_)
                          refine tl_nil ?_
                          refine tx_then ?_
                          refine tr_condp (fe_t rfl) (fun hq13 => ?_) (fun hq14 => ?_)
                          · try (exfalso; omega)
                            all_goals
                              refine tr_skip ?_
                              refine tx_then ?_
                              refine tr_condp (fe_t rfl) (fun hq15 => ?_) (fun hq16 => ?_)
                              · try (exfalso; omega)
                                all_goals
                                  obtain ⟨p1, p2, p3⟩ := bad (show err s.f (os.getD i o0) = 3 by first | exact err_2e (by omega) (hmr.emp.2 (by omega)) | exact err_3n (by omega) (hmr.nope (by first | assumption | (have h9 := ‹(!(mget m1 (os.getD i o0).id).isSome) = true›; simpa using h9)))) (by decide)
                                  refine tr_region ?_
                                  refine tl_step rfl (oj_val (y_assign fe_c) ?_)
                                  refine tl_nil ?_
                                  refine tx_in ?_
                                  refine tx_then ?_
                                  refine tr_region ?_
                                  refine tl_step rfl (oj_val (y_move (fe_t rfl)) ?_)
                                  refine tl_step rfl (oj_val (y_move (fe_t rfl)) ?_)
                                  refine tl_step rfl (oj_slice1 Try.underlying47 Try.sizeOf29 Try.zeroValue29 (fe_t rfl) (by decide) rfl (fun b4 => ?_))
                                  refine tl_step rfl (oj_appendB (i := 4) (s := 1) (z := (.int .i64 0)) (bytes := 8) Try.underlying47 (by kernel_rfl) (fe_t rfl) (fe_t rfl) rfl (rdl_blk 0 rfl) rfl (by decide) (by first | exact oneI | exact oneF (fun _ => rfl) | exact fun u hu => List.all_eq_true.1 (show List.all _ (fun x => x.oneCell') = true from rfl) u hu | (intro u hu; revert u hu; simp [Value.oneCell'])) (by decide) ⟨by omega, by decide⟩ (fun Aa4 ca4 hca4 => ?_))
                                  refine tl_step rfl (oj_val (y_assign (fe_t rfl)) ?_)
                                  refine tl_nil ?_
                                  refine tx_in ?_
                                  refine tx_then ?_
                                  refine tr_region ?_
                                  refine tl_step rfl (oj_val (y_inc (fe_t rfl) fe_c (by omega)) ?_)
                                  refine tl_step rfl (oj_val (y_move (fe_t rfl)) ?_)
                                  refine tl_nil ?_
                                  apply tx_back5 (i + 1) (go s (os.getD i o0)) (_) ((⟨_, _, _, _⟩ : Vs)) ((⟨_, _, _, _⟩ : Vs))
                                  · exact (cov_cons (by first | rfl | exact v_int (by omega) | exact v_bool (by simp [*])) (cov_cons (by first | rfl | exact v_int (by omega) | exact v_bool (by simp [*])) (cov_cons (by first | rfl | exact v_int (by omega) | exact v_bool (by simp [*])) (cov_nil))))
                                  · repeat (first | exact over_nil | refine over_put rfl ?_ | refine over_drop rfl ?_)
                                  · exact fun w h => h.pick [3, 4, 5, 6] _ rfl (by decide)
                                  · exact ⟨⟨by omega, by rw [hs]; exact (run_next (by omega)).symm, by rw [go_f, p3]; exact hmr, by omega, ⟨by dsimp only; omega, by rw [go_errs]; simp; omega⟩, by rw [go_errs, ← p2, ← cI_app, ← hex]; rfl, by rw [go_stay (fun h9 => by have h8 := h9.1; rw [← p2] at h8; exact absurd h8 (by decide))]; exact hpn, by rw [go_stay (fun h9 => by have h8 := h9.1; rw [← p2] at h8; exact absurd h8 (by decide))]; exact hpx, by dsimp only; omega⟩, by omega⟩
                              · try (exfalso; omega)
                                all_goals
                                  refine tr_seq ?_
                                  refine tr_region ?_
                                  refine tl_step rfl (oj_val (y_fieldAddr (td := 3) Try.underlying121 rfl rfl Try.sizeOf3 (o' := 0) rfl (fe_t rfl)) ?_)
                                  refine tl_step rfl (oj_val (y_ldb 1 Try.isAgg3 (fe_t rfl) rfl rfl) ?_)
                                  refine tl_step rfl (oj_val (y_eq (fe_t rfl) fe_c) ?_)
                                  refine tl_step rfl (oj_val (y_assign (fe_t rfl)) ?_)
                                  refine tl_nil ?_
                                  refine tx_then ?_
                                  refine tr_condp (fe_t rfl) (fun hq17 => ?_) (fun hq18 => ?_)
                                  · try (exfalso; omega)
                                    all_goals
                                      refine tr_seq ?_
                                      have hkd : (os.getD i o0).kind = 2 := by omega
                                      have hne : ¬ Emp s.f := fun h9 => by have h8 := hmr.emp.1 h9; omega
                                      obtain ⟨p1, p2, p3⟩ := good_2 hkd hne
                                      refine tr_region ?_
                                      refine tl_step rfl (oj_val (y_move (fe_t rfl)) ?_)
                                      refine tl_step rfl (oj_callF Try.call65 (fe_t rfl) fel_nil (fun w' hS => cminE (hS.pick [4, 5, 0, 1, 2, 3] [_, _, _, _, _, _] rfl (by decide)) hmr hne) (fun _ hmin => ?_))
                                      refine tl_step rfl (oj_val (y_assign (fe_t rfl)) ?_)
                                      refine tl_nil ?_
                                      refine tx_then ?_
                                      refine tr_seq ?_
                                      refine tr_region ?_
                                      refine tl_step rfl (oj_val (y_move (fe_t rfl)) ?_)
                                      refine tl_step rfl (oj_val (y_move (fe_t rfl)) ?_)
                                      refine tl_step rfl (oj_slice1 Try.underlying27 Try.sizeOf3 Try.zeroValue3 (fe_t rfl) (by decide) rfl (fun b5 => ?_))
                                      refine tl_step rfl (oj_appendB (i := 5) (s := 1) (z := (.int .i64 0)) (bytes := 8) Try.underlying27 (by kernel_rfl) (fe_t rfl) (fe_t rfl) rfl (rdl_blk 0 rfl) rfl (by decide) (by first | exact oneI | exact oneF (fun _ => rfl) | exact fun u hu => List.all_eq_true.1 (show List.all _ (fun x => x.oneCell') = true from rfl) u hu | (intro u hu; revert u hu; simp [Value.oneCell'])) (by decide) ⟨by omega, by decide⟩ (fun Aa5 ca5 hca5 => ?_))
                                      refine tl_step rfl (oj_val (y_assign (fe_t rfl)) ?_)
                                      refine tl_nil ?_
                                      refine tx_then ?_
                                      refine tr_pure (mp_nodup 2 rfl) (fun hnd => ?_)
                                      refine tr_region ?_
                                      refine tl_step rfl (oj_val (y_ldb 1 Try.isAgg128 (fe_t rfl) rfl rfl) ?_)
                                      refine tl_step rfl (oj_val (y_move (fe_t rfl)) ?_)
                                      refine tl_step rfl (oj_mapDel 2 Try.underlying128 Try.underlying3 (fe_t rfl) (fe_t rfl) rfl (?_))
                                      refine tl_nil ?_
                                      refine tx_in ?_
                                      refine tx_then ?_
                                      refine tr_region ?_
                                      refine tl_step rfl (oj_val (y_move (fe_t rfl)) ?_)
                                      refine tl_step rfl (oj_val (y_move (fe_t rfl)) ?_)
                                      refine tl_step rfl (oj_slice1 Try.underlying47 Try.sizeOf29 Try.zeroValue29 (fe_t rfl) (by decide) rfl (fun b6 => ?_))
                                      refine tl_step rfl (oj_appendB (i := 7) (s := 1) (z := (.int .i64 0)) (bytes := 8) Try.underlying47 (by kernel_rfl) (fe_t rfl) (fe_t rfl) rfl (rdl_blk 0 rfl) rfl (by decide) (by first | exact oneI | exact oneF (fun _ => rfl) | exact fun u hu => List.all_eq_true.1 (show List.all _ (fun x => x.oneCell') = true from rfl) u hu | (intro u hu; revert u hu; simp [Value.oneCell'])) (by decide) ⟨by omega, by decide⟩ (fun Aa6 ca6 hca6 => ?_))
                                      refine tl_step rfl (oj_val (y_assign (fe_t rfl)) ?_)
                                      refine tl_nil ?_
                                      refine tx_in ?_
                                      refine tx_then ?_
                                      refine tr_region ?_
                                      refine tl_step rfl (oj_val (y_inc (fe_t rfl) fe_c (by omega)) ?_)
                                      refine tl_step rfl (oj_val (y_move (fe_t rfl)) ?_)
                                      refine tl_nil ?_
                                      apply tx_back5 (i + 1) (go s (os.getD i o0)) (_) ((⟨_, _, _, _⟩ : Vs)) ((⟨_, _, _, _⟩ : Vs))
                                      · exact (cov_cons (by first | rfl | exact v_int (by omega) | exact v_bool (by simp [*])) (cov_cons (by first | rfl | exact v_int (by omega) | exact v_bool (by simp [*])) (cov_cons (by first | rfl | exact v_int (by omega) | exact v_bool (by simp [*])) (cov_nil))))
                                      · repeat (first | exact over_nil | refine over_put rfl ?_ | refine over_drop rfl ?_)
                                      · exact fun w h => h.pick [6, 7, 2, 3] _ rfl (by decide)
                                      · exact ⟨⟨by omega, by rw [hs]; exact (run_next (by omega)).symm, by rw [go_f, p3]; exact hmr.del hnd _, by have := mdel_le m1 (amin s.f); omega, ⟨by dsimp only; omega, by rw [go_errs]; simp; omega⟩, by rw [go_errs, ← p2, ← cI_app, ← hex]; rfl, by rw [go_pops p2.symm hkd]; simp; omega, by rw [go_pops p2.symm hkd, p1, ← cI_app, ← hpx]; rfl, by dsimp only; omega⟩, by omega⟩
                                  · try (exfalso; omega)
                                    all_goals
                                      refine tr_seq ?_
                                      refine tr_region ?_
                                      refine tl_step rfl (oj_val (y_fieldAddr (td := 3) Try.underlying121 rfl rfl Try.sizeOf3 (o' := 0) rfl (fe_t rfl)) ?_)
                                      refine tl_step rfl (oj_val (y_ldb 1 Try.isAgg3 (fe_t rfl) rfl rfl) ?_)
                                      refine tl_step rfl (oj_val (y_eq (fe_t rfl) fe_c) ?_)
                                      refine tl_step rfl (oj_val (y_assign (fe_t rfl)) ?_)
                                      refine tl_nil ?_
                                      refine tx_then ?_
                                      refine tr_condp (fe_t rfl) (fun hq19 => ?_) (fun hq20 => ?_)
                                      · try (exfalso; omega)
                                        all_goals
                                          obtain ⟨p1, p2, p3⟩ := good_3 (f := s.f) (o := (os.getD i o0)) (by omega) (hmr.yes (by first | assumption | (have h9 := ‹(!(mget m1 (os.getD i o0).id).isSome) = false›; simpa using h9)))
                                          refine tr_pure (mp_nodup 5 rfl) (fun hnd => ?_)
                                          refine tr_region ?_
                                          refine tl_step rfl (oj_val (y_ldb 4 Try.isAgg128 (fe_t rfl) rfl rfl) ?_)
                                          refine tl_step rfl (oj_val (y_fieldAddr (td := 3) Try.underlying121 rfl rfl Try.sizeOf3 (o' := 1) rfl (fe_t rfl)) ?_)
                                          refine tl_step rfl (oj_val (y_ldb 1 Try.isAgg3 (fe_t rfl) rfl rfl) ?_)
                                          refine tl_step rfl (oj_mapDel 5 Try.underlying128 Try.underlying3 (fe_t rfl) (fe_t rfl) rfl (?_))
                                          refine tl_nil ?_
                                          refine tx_in ?_
                                          refine tx_then ?_
                                          refine tr_region ?_
                                          refine tl_step rfl (oj_val (y_move (fe_t rfl)) ?_)
                                          refine tl_step rfl (oj_val (y_move (fe_t rfl)) ?_)
                                          refine tl_step rfl (oj_slice1 Try.underlying47 Try.sizeOf29 Try.zeroValue29 (fe_t rfl) (by decide) rfl (fun b7 => ?_))
                                          refine tl_step rfl (oj_appendB (i := 4) (s := 1) (z := (.int .i64 0)) (bytes := 8) Try.underlying47 (by kernel_rfl) (fe_t rfl) (fe_t rfl) rfl (rdl_blk 0 rfl) rfl (by decide) (by first | exact oneI | exact oneF (fun _ => rfl) | exact fun u hu => List.all_eq_true.1 (show List.all _ (fun x => x.oneCell') = true from rfl) u hu | (intro u hu; revert u hu; simp [Value.oneCell'])) (by decide) ⟨by omega, by decide⟩ (fun Aa7 ca7 hca7 => ?_))
                                          refine tl_step rfl (oj_val (y_assign (fe_t rfl)) ?_)
                                          refine tl_nil ?_
                                          refine tx_in ?_
                                          refine tx_then ?_
                                          refine tr_region ?_
                                          refine tl_step rfl (oj_val (y_inc (fe_t rfl) fe_c (by omega)) ?_)
                                          refine tl_step rfl (oj_val (y_move (fe_t rfl)) ?_)
                                          refine tl_nil ?_
                                          apply tx_back5 (i + 1) (go s (os.getD i o0)) (_) ((⟨_, _, _, _⟩ : Vs)) ((⟨_, _, _, _⟩ : Vs))
                                          · exact (cov_cons (by first | rfl | exact v_int (by omega) | exact v_bool (by simp [*])) (cov_cons (by first | rfl | exact v_int (by omega) | exact v_bool (by simp [*])) (cov_cons (by first | rfl | exact v_int (by omega) | exact v_bool (by simp [*])) (cov_nil))))
                                          · repeat (first | exact over_nil | refine over_put rfl ?_ | refine over_drop rfl ?_)
                                          · exact fun w h => h.pick [3, 4, 5, 6] _ rfl (by decide)
                                          · exact ⟨⟨by omega, by rw [hs]; exact (run_next (by omega)).symm, by rw [go_f, p3]; exact hmr.del hnd _, by have := mdel_le m1 (os.getD i o0).id; omega, ⟨by dsimp only; omega, by rw [go_errs]; simp; omega⟩, by rw [go_errs, ← p2, ← cI_app, ← hex]; rfl, by rw [go_stay (fun h9 => by have h8 := h9.2; omega)]; exact hpn, by rw [go_stay (fun h9 => by have h8 := h9.2; omega)]; exact hpx, by dsimp only; omega⟩, by omega⟩
                                      · try (exfalso; omega)
                                        all_goals
                                          obtain ⟨p1, p2, p3⟩ : pop s.f (os.getD i o0) = 0 ∧ 0 = err s.f (os.getD i o0) ∧ nxt s.f (os.getD i o0) = upd s.f (os.getD i o0).id (some ((os.getD i o0).hi, (os.getD i o0).lo)) := by
                                            first
                                              | exact good_1 (by omega) (hmr.nope (by first | assumption | (have h9 := ‹(!(mget m1 (os.getD i o0).id).isSome) = true›; simpa using h9)))
                                              | exact good_4 (by omega) (hmr.yes (by first | assumption | (have h9 := ‹(!(mget m1 (os.getD i o0).id).isSome) = false›; simpa using h9)))
                                          refine tr_region ?_
                                          refine tl_step rfl (oj_val (y_ldb 4 Try.isAgg128 (fe_t rfl) rfl rfl) ?_)
                                          refine tl_step rfl (oj_val (y_fieldAddr (td := 3) Try.underlying121 rfl rfl Try.sizeOf3 (o' := 1) rfl (fe_t rfl)) ?_)
                                          refine tl_step rfl (oj_val (y_ldb 1 Try.isAgg3 (fe_t rfl) rfl rfl) ?_)
                                          refine tl_step rfl (oj_val (y_fieldAddr (td := 119) Try.underlying121 rfl rfl Try.sizeOf119 (o' := 2) rfl (fe_t rfl)) ?_)
                                          refine tl_step rfl (oj_val (y_ldbA 1 Try.isAgg119 Try.sizeOf119 (fe_t rfl) rfl rfl rfl) ?_)
                                          refine tl_step rfl (oj_mapPut 5 Try.underlying128 Try.underlying3 (fe_t rfl) (fe_t rfl) (fe_t rfl) rfl (.inl rfl) (?_))
                                          refine tl_nil ?_
                                          refine tx_in ?_
                                          refine tx_then ?_
                                          refine tr_region ?_
                                          refine tl_step rfl (oj_val (y_move (fe_t rfl)) ?_)
                                          refine tl_step rfl (oj_val (y_move (fe_t rfl)) ?_)
                                          refine tl_step rfl (oj_slice1 Try.underlying47 Try.sizeOf29 Try.zeroValue29 (fe_t rfl) (by decide) rfl (fun b8 => ?_))
                                          refine tl_step rfl (oj_appendB (i := 4) (s := 1) (z := (.int .i64 0)) (bytes := 8) Try.underlying47 (by kernel_rfl) (fe_t rfl) (fe_t rfl) rfl (rdl_blk 0 rfl) rfl (by decide) (by first | exact oneI | exact oneF (fun _ => rfl) | exact fun u hu => List.all_eq_true.1 (show List.all _ (fun x => x.oneCell') = true from rfl) u hu | (intro u hu; revert u hu; simp [Value.oneCell'])) (by decide) ⟨by omega, by decide⟩ (fun Aa8 ca8 hca8 => ?_))
                                          refine tl_step rfl (oj_val (y_assign (fe_t rfl)) ?_)
                                          refine tl_nil ?_
                                          refine tx_in ?_
                                          refine tx_then ?_
                                          refine tr_region ?_
                                          refine tl_step rfl (oj_val (y_inc (fe_t rfl) fe_c (by omega)) ?_)
                                          refine tl_step rfl (oj_val (y_move (fe_t rfl)) ?_)
                                          refine tl_nil ?_
                                          apply tx_back5 (i + 1) (go s (os.getD i o0)) (_) ((⟨_, _, _, _⟩ : Vs)) ((⟨_, _, _, _⟩ : Vs))
                                          · exact (cov_cons (by first | rfl | exact v_int (by omega) | exact v_bool (by simp [*])) (cov_cons (by first | rfl | exact v_int (by omega) | exact v_bool (by simp [*])) (cov_cons (by first | rfl | exact v_int (by omega) | exact v_bool (by simp [*])) (cov_nil))))
                                          · repeat (first | exact over_nil | refine over_put rfl ?_ | refine over_drop rfl ?_)
                                          · exact fun w h => h.pick [3, 4, 5, 6] _ rfl (by decide)
                                          · exact ⟨⟨by omega, by rw [hs]; exact (run_next (by omega)).symm, by rw [go_f, p3]; exact hmr.put (os.getD i o0).id ((os.getD i o0).hi, (os.getD i o0).lo), Nat.le_trans (mput_len _ _ _) (by omega), ⟨by dsimp only; omega, by rw [go_errs]; simp; omega⟩, by rw [go_errs, ← p2, ← cI_app, ← hex]; rfl, by rw [go_stay (fun h9 => by have h8 := h9.2; omega)]; exact hpn, by rw [go_stay (fun h9 => by have h8 := h9.2; omega)]; exact hpx, by dsimp only; omega⟩, by omega⟩
                          · try (exfalso; omega)
                            all_goals
                              refine tr_region ?_
                              refine tl_step rfl (oj_val (y_fieldAddr (td := 3) Try.underlying121 rfl rfl Try.sizeOf3 (o' := 0) rfl (fe_t rfl)) ?_)
                              refine tl_step rfl (oj_val (y_ldb 1 Try.isAgg3 (fe_t rfl) rfl rfl) ?_)
                              refine tl_step rfl (oj_val (y_gtr (fe_t rfl) fe_c) ?_)
                              refine tl_step rfl (oj_val (y_move (fe_t rfl)) ?_)
                              refine tl_splitp (d := 65) rfl (fun hq21 => ?_) (fun hq22 => ?_)
                              · try (exfalso; omega)
                                all_goals
                                  refine tl_want rfl rfl rfl (oj_val (y_move (fe_t rfl)) ?_)
                                  refine tl_want rfl rfl rfl (oj_val (y_not (fe_t rfl)) ?_)
                                  refine tl_step rfl (oj_val (y_pickt (fe_t rfl) (fe_t rfl)) ?_)
                                  refine tl_step rfl (oj_val (y_assign (fe_t rfl)) ?_)
                                  refine tl_nil ?_
                                  refine tx_then ?_
                                  refine tr_cond (fe_t rfl) (fun hq23 => ?_) (fun hq24 => ?_)
                                  · try (exfalso; omega)
                                    all_goals
                                      obtain ⟨p1, p2, p3⟩ := bad (show err s.f (os.getD i o0) = 3 by first | exact err_2e (by omega) (hmr.emp.2 (by omega)) | exact err_3n (by omega) (hmr.nope (by first | assumption | (have h9 := ‹(!(mget m1 (os.getD i o0).id).isSome) = true›; simpa using h9)))) (by decide)
                                      refine tr_region ?_
                                      refine tl_step rfl (oj_val (y_assign fe_c) ?_)
                                      refine tl_nil ?_
                                      refine tx_in ?_
                                      refine tx_then ?_
                                      refine tr_region ?_
                                      refine tl_step rfl (oj_val (y_move (fe_t rfl)) ?_)
                                      refine tl_step rfl (oj_val (y_move (fe_t rfl)) ?_)
                                      refine tl_step rfl (oj_slice1 Try.underlying47 Try.sizeOf29 Try.zeroValue29 (fe_t rfl) (by decide) rfl (fun b9 => ?_))
                                      refine tl_step rfl (oj_appendB (i := 4) (s := 1) (z := (.int .i64 0)) (bytes := 8) Try.underlying47 (by kernel_rfl) (fe_t rfl) (fe_t rfl) rfl (rdl_blk 0 rfl) rfl (by decide) (by first | exact oneI | exact oneF (fun _ => rfl) | exact fun u hu => List.all_eq_true.1 (show List.all _ (fun x => x.oneCell') = true from rfl) u hu | (intro u hu; revert u hu; simp [Value.oneCell'])) (by decide) ⟨by omega, by decide⟩ (fun Aa9 ca9 hca9 => ?_))
                                      refine tl_step rfl (oj_val (y_assign (fe_t rfl)) ?_)
                                      refine tl_nil ?_
                                      refine tx_in ?_
                                      refine tx_then ?_
                                      refine tr_region ?_
                                      refine tl_step rfl (oj_val (y_inc (fe_t rfl) fe_c (by omega)) ?_)
                                      refine tl_step rfl (oj_val (y_move (fe_t rfl)) ?_)
                                      refine tl_nil ?_
                                      apply tx_back5 (i + 1) (go s (os.getD i o0)) (_) ((⟨_, _, _, _⟩ : Vs)) ((⟨_, _, _, _⟩ : Vs))
                                      · exact (cov_cons (by first | rfl | exact v_int (by omega) | exact v_bool (by simp [*])) (cov_cons (by first | rfl | exact v_int (by omega) | exact v_bool (by simp [*])) (cov_cons (by first | rfl | exact v_int (by omega) | exact v_bool (by simp [*])) (cov_nil))))
                                      · repeat (first | exact over_nil | refine over_put rfl ?_ | refine over_drop rfl ?_)
                                      · exact fun w h => h.pick [3, 4, 5, 6] _ rfl (by decide)
                                      · exact ⟨⟨by omega, by rw [hs]; exact (run_next (by omega)).symm, by rw [go_f, p3]; exact hmr, by omega, ⟨by dsimp only; omega, by rw [go_errs]; simp; omega⟩, by rw [go_errs, ← p2, ← cI_app, ← hex]; rfl, by rw [go_stay (fun h9 => by have h8 := h9.1; rw [← p2] at h8; exact absurd h8 (by decide))]; exact hpn, by rw [go_stay (fun h9 => by have h8 := h9.1; rw [← p2] at h8; exact absurd h8 (by decide))]; exact hpx, by dsimp only; omega⟩, by omega⟩
                                  · try (exfalso; omega)
                                    all_goals
                                      refine tr_seq ?_
                                      refine tr_region ?_
                                      refine tl_step rfl (oj_val (y_fieldAddr (td := 3) Try.underlying121 rfl rfl Try.sizeOf3 (o' := 0) rfl (fe_t rfl)) ?_)
                                      refine tl_step rfl (oj_val (y_ldb 1 Try.isAgg3 (fe_t rfl) rfl rfl) ?_)
                                      refine tl_step rfl (oj_val (y_eq (fe_t rfl) fe_c) ?_)
                                      refine tl_step rfl (oj_val (y_assign (fe_t rfl)) ?_)
                                      refine tl_nil ?_
                                      refine tx_then ?_
                                      refine tr_condp (fe_t rfl) (fun hq25 => ?_) (fun hq26 => ?_)
                                      · try (exfalso; omega)
                                        all_goals
                                          refine tr_seq ?_
                                          have hkd : (os.getD i o0).kind = 2 := by omega
                                          have hne : ¬ Emp s.f := fun h9 => by have h8 := hmr.emp.1 h9; omega
                                          obtain ⟨p1, p2, p3⟩ := good_2 hkd hne
                                          refine tr_region ?_
                                          refine tl_step rfl (oj_val (y_move (fe_t rfl)) ?_)
                                          refine tl_step rfl (oj_callF Try.call65 (fe_t rfl) fel_nil (fun w' hS => cminE (hS.pick [4, 5, 0, 1, 2, 3] [_, _, _, _, _, _] rfl (by decide)) hmr hne) (fun _ hmin => ?_))
                                          refine tl_step rfl (oj_val (y_assign (fe_t rfl)) ?_)
                                          refine tl_nil ?_
                                          refine tx_then ?_
                                          refine tr_seq ?_
                                          refine tr_region ?_
                                          refine tl_step rfl (oj_val (y_move (fe_t rfl)) ?_)
                                          refine tl_step rfl (oj_val (y_move (fe_t rfl)) ?_)
                                          refine tl_step rfl (oj_slice1 Try.underlying27 Try.sizeOf3 Try.zeroValue3 (fe_t rfl) (by decide) rfl (fun b10 => ?_))
                                          refine tl_step rfl (oj_appendB (i := 5) (s := 1) (z := (.int .i64 0)) (bytes := 8) Try.underlying27 (by kernel_rfl) (fe_t rfl) (fe_t rfl) rfl (rdl_blk 0 rfl) rfl (by decide) (by first | exact oneI | exact oneF (fun _ => rfl) | exact fun u hu => List.all_eq_true.1 (show List.all _ (fun x => x.oneCell') = true from rfl) u hu | (intro u hu; revert u hu; simp [Value.oneCell'])) (by decide) ⟨by omega, by decide⟩ (fun Aa10 ca10 hca10 => ?_))
                                          refine tl_step rfl (oj_val (y_assign (fe_t rfl)) ?_)
                                          refine tl_nil ?_
                                          refine tx_then ?_
                                          refine tr_pure (mp_nodup 2 rfl) (fun hnd => ?_)
                                          refine tr_region ?_
                                          refine tl_step rfl (oj_val (y_ldb 1 Try.isAgg128 (fe_t rfl) rfl rfl) ?_)
                                          refine tl_step rfl (oj_val (y_move (fe_t rfl)) ?_)
                                          refine tl_step rfl (oj_mapDel 2 Try.underlying128 Try.underlying3 (fe_t rfl) (fe_t rfl) rfl (?_))
                                          refine tl_nil ?_
                                          refine tx_in ?_
                                          refine tx_then ?_
                                          refine tr_region ?_
                                          refine tl_step rfl (oj_val (y_move (fe_t rfl)) ?_)
                                          refine tl_step rfl (oj_val (y_move (fe_t rfl)) ?_)
                                          refine tl_step rfl (oj_slice1 Try.underlying47 Try.sizeOf29 Try.zeroValue29 (fe_t rfl) (by decide) rfl (fun b11 => ?_))
                                          refine tl_step rfl (oj_appendB (i := 7) (s := 1) (z := (.int .i64 0)) (bytes := 8) Try.underlying47 (by kernel_rfl) (fe_t rfl) (fe_t rfl) rfl (rdl_blk 0 rfl) rfl (by decide) (by first | exact oneI | exact oneF (fun _ => rfl) | exact fun u hu => List.all_eq_true.1 (show List.all _ (fun x => x.oneCell') = true from rfl) u hu | (intro u hu; revert u hu; simp [Value.oneCell'])) (by decide) ⟨by omega, by decide⟩ (fun Aa11 ca11 hca11 => ?_))
                                          refine tl_step rfl (oj_val (y_assign (fe_t rfl)) ?_)
                                          refine tl_nil ?_
                                          refine tx_in ?_
                                          refine tx_then ?_
                                          refine tr_region ?_
                                          refine tl_step rfl (oj_val (y_inc (fe_t rfl) fe_c (by omega)) ?_)
                                          refine tl_step rfl (oj_val (y_move (fe_t rfl)) ?_)
                                          refine tl_nil ?_
                                          apply tx_back5 (i + 1) (go s (os.getD i o0)) (_) ((⟨_, _, _, _⟩ : Vs)) ((⟨_, _, _, _⟩ : Vs))
                                          · exact (cov_cons (by first | rfl | exact v_int (by omega) | exact v_bool (by simp [*])) (cov_cons (by first | rfl | exact v_int (by omega) | exact v_bool (by simp [*])) (cov_cons (by first | rfl | exact v_int (by omega) | exact v_bool (by simp [*])) (cov_nil))))
                                          · repeat (first | exact over_nil | refine over_put rfl ?_ | refine over_drop rfl ?_)
                                          · exact fun w h => h.pick [6, 7, 2, 3] _ rfl (by decide)
                                          · exact ⟨⟨by omega, by rw [hs]; exact (run_next (by omega)).symm, by rw [go_f, p3]; exact hmr.del hnd _, by have := mdel_le m1 (amin s.f); omega, ⟨by dsimp only; omega, by rw [go_errs]; simp; omega⟩, by rw [go_errs, ← p2, ← cI_app, ← hex]; rfl, by rw [go_pops p2.symm hkd]; simp; omega, by rw [go_pops p2.symm hkd, p1, ← cI_app, ← hpx]; rfl, by dsimp only; omega⟩, by omega⟩
                                      · try (exfalso; omega)
                                        all_goals
                                          refine tr_seq ?_
                                          refine tr_region ?_
                                          refine tl_step rfl (oj_val (y_fieldAddr (td := 3) Try.underlying121 rfl rfl Try.sizeOf3 (o' := 0) rfl (fe_t rfl)) ?_)
                                          refine tl_step rfl (oj_val (y_ldb 1 Try.isAgg3 (fe_t rfl) rfl rfl) ?_)
                                          refine tl_step rfl (oj_val (y_eq (fe_t rfl) fe_c) ?_)
                                          refine tl_step rfl (oj_val (y_assign (fe_t rfl)) ?_)
                                          refine tl_nil ?_
                                          refine tx_then ?_
                                          refine tr_condp (fe_t rfl) (fun hq27 => ?_) (fun hq28 => ?_)
                                          · try (exfalso; omega)
                                            all_goals
                                              obtain ⟨p1, p2, p3⟩ := good_3 (f := s.f) (o := (os.getD i o0)) (by omega) (hmr.yes (by first | assumption | (have h9 := ‹(!(mget m1 (os.getD i o0).id).isSome) = false›; simpa using h9)))
                                              refine tr_pure (mp_nodup 5 rfl) (fun hnd => ?_)
                                              refine tr_region ?_
                                              refine tl_step rfl (oj_val (y_ldb 4 Try.isAgg128 (fe_t rfl) rfl rfl) ?_)
                                              refine tl_step rfl (oj_val (y_fieldAddr (td := 3) Try.underlying121 rfl rfl Try.sizeOf3 (o' := 1) rfl (fe_t rfl)) ?_)
                                              refine tl_step rfl (oj_val (y_ldb 1 Try.isAgg3 (fe_t rfl) rfl rfl) ?_)
                                              refine tl_step rfl (oj_mapDel 5 Try.underlying128 Try.underlying3 (fe_t rfl) (fe_t rfl) rfl (?_))
                                              refine tl_nil ?_
                                              refine tx_in ?_
                                              refine tx_then ?_
                                              refine tr_region ?_
                                              refine tl_step rfl (oj_val (y_move (fe_t rfl)) ?_)
                                              refine tl_step rfl (oj_val (y_move (fe_t rfl)) ?_)
                                              refine tl_step rfl (oj_slice1 Try.underlying47 Try.sizeOf29 Try.zeroValue29 (fe_t rfl) (by decide) rfl (fun b12 => ?_))
                                              refine tl_step rfl (oj_appendB (i := 4) (s := 1) (z := (.int .i64 0)) (bytes := 8) Try.underlying47 (by kernel_rfl) (fe_t rfl) (fe_t rfl) rfl (rdl_blk 0 rfl) rfl (by decide) (by first | exact oneI | exact oneF (fun _ => rfl) | exact fun u hu => List.all_eq_true.1 (show List.all _ (fun x => x.oneCell') = true from rfl) u hu | (intro u hu; revert u hu; simp [Value.oneCell'])) (by decide) ⟨by omega, by decide⟩ (fun Aa12 ca12 hca12 => ?_))
                                              refine tl_step rfl (oj_val (y_assign (fe_t rfl)) ?_)
                                              refine tl_nil ?_
                                              refine tx_in ?_
                                              refine tx_then ?_
                                              refine tr_region ?_
                                              refine tl_step rfl (oj_val (y_inc (fe_t rfl) fe_c (by omega)) ?_)
                                              refine tl_step rfl (oj_val (y_move (fe_t rfl)) ?_)
                                              refine tl_nil ?_
                                              apply tx_back5 (i + 1) (go s (os.getD i o0)) (_) ((⟨_, _, _, _⟩ : Vs)) ((⟨_, _, _, _⟩ : Vs))
                                              · exact (cov_cons (by first | rfl | exact v_int (by omega) | exact v_bool (by simp [*])) (cov_cons (by first | rfl | exact v_int (by omega) | exact v_bool (by simp [*])) (cov_cons (by first | rfl | exact v_int (by omega) | exact v_bool (by simp [*])) (cov_nil))))
                                              · repeat (first | exact over_nil | refine over_put rfl ?_ | refine over_drop rfl ?_)
                                              · exact fun w h => h.pick [3, 4, 5, 6] _ rfl (by decide)
                                              · exact ⟨⟨by omega, by rw [hs]; exact (run_next (by omega)).symm, by rw [go_f, p3]; exact hmr.del hnd _, by have := mdel_le m1 (os.getD i o0).id; omega, ⟨by dsimp only; omega, by rw [go_errs]; simp; omega⟩, by rw [go_errs, ← p2, ← cI_app, ← hex]; rfl, by rw [go_stay (fun h9 => by have h8 := h9.2; omega)]; exact hpn, by rw [go_stay (fun h9 => by have h8 := h9.2; omega)]; exact hpx, by dsimp only; omega⟩, by omega⟩
                                          · try (exfalso; omega)
                                            all_goals
                                              obtain ⟨p1, p2, p3⟩ : pop s.f (os.getD i o0) = 0 ∧ 0 = err s.f (os.getD i o0) ∧ nxt s.f (os.getD i o0) = upd s.f (os.getD i o0).id (some ((os.getD i o0).hi, (os.getD i o0).lo)) := by
                                                first
                                                  | exact good_1 (by omega) (hmr.nope (by first | assumption | (have h9 := ‹(!(mget m1 (os.getD i o0).id).isSome) = true›; simpa using h9)))
                                                  | exact good_4 (by omega) (hmr.yes (by first | assumption | (have h9 := ‹(!(mget m1 (os.getD i o0).id).isSome) = false›; simpa using h9)))
                                              refine tr_region ?_
                                              refine tl_step rfl (oj_val (y_ldb 4 Try.isAgg128 (fe_t rfl) rfl rfl) ?_)
                                              refine tl_step rfl (oj_val (y_fieldAddr (td := 3) Try.underlying121 rfl rfl Try.sizeOf3 (o' := 1) rfl (fe_t rfl)) ?_)
                                              refine tl_step rfl (oj_val (y_ldb 1 Try.isAgg3 (fe_t rfl) rfl rfl) ?_)
                                              refine tl_step rfl (oj_val (y_fieldAddr (td := 119) Try.underlying121 rfl rfl Try.sizeOf119 (o' := 2) rfl (fe_t rfl)) ?_)
                                              refine tl_step rfl (oj_val (y_ldbA 1 Try.isAgg119 Try.sizeOf119 (fe_t rfl) rfl rfl rfl) ?_)
                                              refine tl_step rfl (oj_mapPut 5 Try.underlying128 Try.underlying3 (fe_t rfl) (fe_t rfl) (fe_t rfl) rfl (.inl rfl) (?_))
                                              refine tl_nil ?_
                                              refine tx_in ?_
                                              refine tx_then ?_
                                              refine tr_region ?_
                                              refine tl_step rfl (oj_val (y_move (fe_t rfl)) ?_)
                                              refine tl_step rfl (oj_val (y_move (fe_t rfl)) ?_)
                                              refine tl_step rfl (oj_slice1 Try.underlying47 Try.sizeOf29 Try.zeroValue29 (fe_t rfl) (by decide) rfl (fun b13 => ?_))
                                              refine tl_step rfl (oj_appendB (i := 4) (s := 1) (z := (.int .i64 0)) (bytes := 8) Try.underlying47 (by kernel_rfl) (fe_t rfl) (fe_t rfl) rfl (rdl_blk 0 rfl) rfl (by decide) (by first | exact oneI | exact oneF (fun _ => rfl) | exact fun u hu => List.all_eq_true.1 (show List.all _ (fun x => x.oneCell') = true from rfl) u hu | (intro u hu; revert u hu; simp [Value.oneCell'])) (by decide) ⟨by omega, by decide⟩ (fun Aa13 ca13 hca13 => ?_))
                                              refine tl_step rfl (oj_val (y_assign (fe_t rfl)) ?_)
                                              refine tl_nil ?_
                                              refine tx_in ?_
                                              refine tx_then ?_
                                              refine tr_region ?_
                                              refine tl_step rfl (oj_val (y_inc (fe_t rfl) fe_c (by omega)) ?_)
                                              refine tl_step rfl (oj_val (y_move (fe_t rfl)) ?_)
                                              refine tl_nil ?_
                                              apply tx_back5 (i + 1) (go s (os.getD i o0)) (_) ((⟨_, _, _, _⟩ : Vs)) ((⟨_, _, _, _⟩ : Vs))
                                              · exact (cov_cons (by first | rfl | exact v_int (by omega) | exact v_bool (by simp [*])) (cov_cons (by first | rfl | exact v_int (by omega) | exact v_bool (by simp [*])) (cov_cons (by first | rfl | exact v_int (by omega) | exact v_bool (by simp [*])) (cov_nil))))
                                              · repeat (first | exact over_nil | refine over_put rfl ?_ | refine over_drop rfl ?_)
                                              · exact fun w h => h.pick [3, 4, 5, 6] _ rfl (by decide)
                                              · exact ⟨⟨by omega, by rw [hs]; exact (run_next (by omega)).symm, by rw [go_f, p3]; exact hmr.put (os.getD i o0).id ((os.getD i o0).hi, (os.getD i o0).lo), Nat.le_trans (mput_len _ _ _) (by omega), ⟨by dsimp only; omega, by rw [go_errs]; simp; omega⟩, by rw [go_errs, ← p2, ← cI_app, ← hex]; rfl, by rw [go_stay (fun h9 => by have h8 := h9.2; omega)]; exact hpn, by rw [go_stay (fun h9 => by have h8 := h9.2; omega)]; exact hpx, by dsimp only; omega⟩, by omega⟩
                              · try (exfalso; omega)
                                all_goals
                                  refine tl_skip rfl rfl rfl rfl ?_
                                  refine tl_skip rfl rfl rfl rfl ?_
                                  refine tl_step rfl (oj_val (y_pickf (fe_t rfl) fe_c) ?_)
                                  refine tl_step rfl (oj_val (y_assign (fe_t rfl)) ?_)
                                  refine tl_nil ?_
                                  refine tx_then ?_
                                  refine tr_condf (fe_t rfl) ?_
                                  refine tr_seq ?_
                                  refine tr_region ?_
                                  refine tl_step rfl (oj_val (y_fieldAddr (td := 3) Try.underlying121 rfl rfl Try.sizeOf3 (o' := 0) rfl (fe_t rfl)) ?_)
                                  refine tl_step rfl (oj_val (y_ldb 1 Try.isAgg3 (fe_t rfl) rfl rfl) ?_)
                                  refine tl_step rfl (oj_val (y_eq (fe_t rfl) fe_c) ?_)
                                  refine tl_step rfl (oj_val (y_assign (fe_t rfl)) ?_)
                                  refine tl_nil ?_
                                  refine tx_then ?_
                                  refine tr_condp (fe_t rfl) (fun hq29 => ?_) (fun hq30 => ?_)
                                  · try (exfalso; omega)
                                    all_goals
                                      refine tr_seq ?_
                                      have hkd : (os.getD i o0).kind = 2 := by omega
                                      have hne : ¬ Emp s.f := fun h9 => by have h8 := hmr.emp.1 h9; omega
                                      obtain ⟨p1, p2, p3⟩ := good_2 hkd hne
                                      refine tr_region ?_
                                      refine tl_step rfl (oj_val (y_move (fe_t rfl)) ?_)
                                      refine tl_step rfl (oj_callF Try.call65 (fe_t rfl) fel_nil (fun w' hS => cminE (hS.pick [4, 5, 0, 1, 2, 3] [_, _, _, _, _, _] rfl (by decide)) hmr hne) (fun _ hmin => ?_))
                                      refine tl_step rfl (oj_val (y_assign (fe_t rfl)) ?_)
                                      refine tl_nil ?_
                                      refine tx_then ?_
                                      refine tr_seq ?_
                                      refine tr_region ?_
                                      refine tl_step rfl (oj_val (y_move (fe_t rfl)) ?_)
                                      refine tl_step rfl (oj_val (y_move (fe_t rfl)) ?_)
                                      refine tl_step rfl (oj_slice1 Try.underlying27 Try.sizeOf3 Try.zeroValue3 (fe_t rfl) (by decide) rfl (fun b14 => ?_))
                                      refine tl_step rfl (oj_appendB (i := 5) (s := 1) (z := (.int .i64 0)) (bytes := 8) Try.underlying27 (by kernel_rfl) (fe_t rfl) (fe_t rfl) rfl (rdl_blk 0 rfl) rfl (by decide) (by first | exact oneI | exact oneF (fun _ => rfl) | exact fun u hu => List.all_eq_true.1 (show List.all _ (fun x => x.oneCell') = true from rfl) u hu | (intro u hu; revert u hu; simp [Value.oneCell'])) (by decide) ⟨by omega, by decide⟩ (fun Aa14 ca14 hca14 => ?_))
                                      refine tl_step rfl (oj_val (y_assign (fe_t rfl)) ?_)
                                      refine tl_nil ?_
                                      refine tx_then ?_
                                      refine tr_pure (mp_nodup 2 rfl) (fun hnd => ?_)
                                      refine tr_region ?_
                                      refine tl_step rfl (oj_val (y_ldb 1 Try.isAgg128 (fe_t rfl) rfl rfl) ?_)
                                      refine tl_step rfl (oj_val (y_move (fe_t rfl)) ?_)
                                      refine tl_step rfl (oj_mapDel 2 Try.underlying128 Try.underlying3 (fe_t rfl) (fe_t rfl) rfl (?_))
                                      refine tl_nil ?_
                                      refine tx_in ?_
                                      refine tx_then ?_
                                      refine tr_region ?_
                                      refine tl_step rfl (oj_val (y_move (fe_t rfl)) ?_)
                                      refine tl_step rfl (oj_val (y_move (fe_t rfl)) ?_)
                                      refine tl_step rfl (oj_slice1 Try.underlying47 Try.sizeOf29 Try.zeroValue29 (fe_t rfl) (by decide) rfl (fun b15 => ?_))
                                      refine tl_step rfl (oj_appendB (i := 7) (s := 1) (z := (.int .i64 0)) (bytes := 8) Try.underlying47 (by kernel_rfl) (fe_t rfl) (fe_t rfl) rfl (rdl_blk 0 rfl) rfl (by decide) (by first | exact oneI | exact oneF (fun _ => rfl) | exact fun u hu => List.all_eq_true.1 (show List.all _ (fun x => x.oneCell') = true from rfl) u hu | (intro u hu; revert u hu; simp [Value.oneCell'])) (by decide) ⟨by omega, by decide⟩ (fun Aa15 ca15 hca15 => ?_))
                                      refine tl_step rfl (oj_val (y_assign (fe_t rfl)) ?_)
                                      refine tl_nil ?_
                                      refine tx_in ?_
                                      refine tx_then ?_
                                      refine tr_region ?_
                                      refine tl_step rfl (oj_val (y_inc (fe_t rfl) fe_c (by omega)) ?_)
                                      refine tl_step rfl (oj_val (y_move (fe_t rfl)) ?_)
                                      refine tl_nil ?_
                                      apply tx_back5 (i + 1) (go s (os.getD i o0)) (_) ((⟨_, _, _, _⟩ : Vs)) ((⟨_, _, _, _⟩ : Vs))
                                      · exact (cov_cons (by first | rfl | exact v_int (by omega) | exact v_bool (by simp [*])) (cov_cons (by first | rfl | exact v_int (by omega) | exact v_bool (by simp [*])) (cov_cons (by first | rfl | exact v_int (by omega) | exact v_bool (by simp [*])) (cov_nil))))
                                      · repeat (first | exact over_nil | refine over_put rfl ?_ | refine over_drop rfl ?_)
                                      · exact fun w h => h.pick [6, 7, 2, 3] _ rfl (by decide)
                                      · exact ⟨⟨by omega, by rw [hs]; exact (run_next (by omega)).symm, by rw [go_f, p3]; exact hmr.del hnd _, by have := mdel_le m1 (amin s.f); omega, ⟨by dsimp only; omega, by rw [go_errs]; simp; omega⟩, by rw [go_errs, ← p2, ← cI_app, ← hex]; rfl, by rw [go_pops p2.symm hkd]; simp; omega, by rw [go_pops p2.symm hkd, p1, ← cI_app, ← hpx]; rfl, by dsimp only; omega⟩, by omega⟩
                                  · try (exfalso; omega)
                                    all_goals
                                      refine tr_seq ?_
                                      refine tr_region ?_
                                      refine tl_step rfl (oj_val (y_fieldAddr (td := 3) Try.underlying121 rfl rfl Try.sizeOf3 (o' := 0) rfl (fe_t rfl)) ?_)
                                      refine tl_step rfl (oj_val (y_ldb 1 Try.isAgg3 (fe_t rfl) rfl rfl) ?_)
                                      refine tl_step rfl (oj_val (y_eq (fe_t rfl) fe_c) ?_)
                                      refine tl_step rfl (oj_val (y_assign (fe_t rfl)) ?_)
                                      refine tl_nil ?_
                                      refine tx_then ?_
                                      refine tr_condp (fe_t rfl) (fun hq31 => ?_) (fun hq32 => ?_)
                                      · try (exfalso; omega)
                                        all_goals
                                          obtain ⟨p1, p2, p3⟩ := good_3 (f := s.f) (o := (os.getD i o0)) (by omega) (hmr.yes (by first | assumption | (have h9 := ‹(!(mget m1 (os.getD i o0).id).isSome) = false›; simpa using h9)))
                                          refine tr_pure (mp_nodup 5 rfl) (fun hnd => ?_)
                                          refine tr_region ?_
                                          refine tl_step rfl (oj_val (y_ldb 4 Try.isAgg128 (fe_t rfl) rfl rfl) ?_)
                                          refine tl_step rfl (oj_val (y_fieldAddr (td := 3) Try.underlying121 rfl rfl Try.sizeOf3 (o' := 1) rfl (fe_t rfl)) ?_)
                                          refine tl_step rfl (oj_val (y_ldb 1 Try.isAgg3 (fe_t rfl) rfl rfl) ?_)
                                          refine tl_step rfl (oj_mapDel 5 Try.underlying128 Try.underlying3 (fe_t rfl) (fe_t rfl) rfl (?_))
                                          refine tl_nil ?_
                                          refine tx_in ?_
                                          refine tx_then ?_
                                          refine tr_region ?_
                                          refine tl_step rfl (oj_val (y_move (fe_t rfl)) ?_)
                                          refine tl_step rfl (oj_val (y_move (fe_t rfl)) ?_)
                                          refine tl_step rfl (oj_slice1 Try.underlying47 Try.sizeOf29 Try.zeroValue29 (fe_t rfl) (by decide) rfl (fun b16 => ?_))
                                          refine tl_step rfl (oj_appendB (i := 4) (s := 1) (z := (.int .i64 0)) (bytes := 8) Try.underlying47 (by kernel_rfl) (fe_t rfl) (fe_t rfl) rfl (rdl_blk 0 rfl) rfl (by decide) (by first | exact oneI | exact oneF (fun _ => rfl) | exact fun u hu => List.all_eq_true.1 (show List.all _ (fun x => x.oneCell') = true from rfl) u hu | (intro u hu; revert u hu; simp [Value.oneCell'])) (by decide) ⟨by omega, by decide⟩ (fun Aa16 ca16 hca16 => ?_))
                                          refine tl_step rfl (oj_val (y_assign (fe_t rfl)) ?_)
                                          refine tl_nil ?_
                                          refine tx_in ?_
                                          refine tx_then ?_
                                          refine tr_region ?_
                                          refine tl_step rfl (oj_val (y_inc (fe_t rfl) fe_c (by omega)) ?_)
                                          refine tl_step rfl (oj_val (y_move (fe_t rfl)) ?_)
                                          refine tl_nil ?_
                                          apply tx_back5 (i + 1) (go s (os.getD i o0)) (_) ((⟨_, _, _, _⟩ : Vs)) ((⟨_, _, _, _⟩ : Vs))
                                          · exact (cov_cons (by first | rfl | exact v_int (by omega) | exact v_bool (by simp [*])) (cov_cons (by first | rfl | exact v_int (by omega) | exact v_bool (by simp [*])) (cov_cons (by first | rfl | exact v_int (by omega) | exact v_bool (by simp [*])) (cov_nil))))
                                          · repeat (first | exact over_nil | refine over_put rfl ?_ | refine over_drop rfl ?_)
                                          · exact fun w h => h.pick [3, 4, 5, 6] _ rfl (by decide)
                                          · exact ⟨⟨by omega, by rw [hs]; exact (run_next (by omega)).symm, by rw [go_f, p3]; exact hmr.del hnd _, by have := mdel_le m1 (os.getD i o0).id; omega, ⟨by dsimp only; omega, by rw [go_errs]; simp; omega⟩, by rw [go_errs, ← p2, ← cI_app, ← hex]; rfl, by rw [go_stay (fun h9 => by have h8 := h9.2; omega)]; exact hpn, by rw [go_stay (fun h9 => by have h8 := h9.2; omega)]; exact hpx, by dsimp only; omega⟩, by omega⟩
                                      · try (exfalso; omega)
                                        all_goals
                                          obtain ⟨p1, p2, p3⟩ : pop s.f (os.getD i o0) = 0 ∧ 0 = err s.f (os.getD i o0) ∧ nxt s.f (os.getD i o0) = upd s.f (os.getD i o0).id (some ((os.getD i o0).hi, (os.getD i o0).lo)) := by
                                            first
                                              | exact good_1 (by omega) (hmr.nope (by first | assumption | (have h9 := ‹(!(mget m1 (os.getD i o0).id).isSome) = true›; simpa using h9)))
                                              | exact good_4 (by omega) (hmr.yes (by first | assumption | (have h9 := ‹(!(mget m1 (os.getD i o0).id).isSome) = false›; simpa using h9)))
                                          refine tr_region ?_
                                          refine tl_step rfl (oj_val (y_ldb 4 Try.isAgg128 (fe_t rfl) rfl rfl) ?_)
                                          refine tl_step rfl (oj_val (y_fieldAddr (td := 3) Try.underlying121 rfl rfl Try.sizeOf3 (o' := 1) rfl (fe_t rfl)) ?_)
                                          refine tl_step rfl (oj_val (y_ldb 1 Try.isAgg3 (fe_t rfl) rfl rfl) ?_)
                                          refine tl_step rfl (oj_val (y_fieldAddr (td := 119) Try.underlying121 rfl rfl Try.sizeOf119 (o' := 2) rfl (fe_t rfl)) ?_)
                                          refine tl_step rfl (oj_val (y_ldbA 1 Try.isAgg119 Try.sizeOf119 (fe_t rfl) rfl rfl rfl) ?_)
                                          refine tl_step rfl (oj_mapPut 5 Try.underlying128 Try.underlying3 (fe_t rfl) (fe_t rfl) (fe_t rfl) rfl (.inl rfl) (?_))
                                          refine tl_nil ?_
                                          refine tx_in ?_
                                          refine tx_then ?_
                                          refine tr_region ?_
                                          refine tl_step rfl (oj_val (y_move (fe_t rfl)) ?_)
                                          refine tl_step rfl (oj_val (y_move (fe_t rfl)) ?_)
                                          refine tl_step rfl (oj_slice1 Try.underlying47 Try.sizeOf29 Try.zeroValue29 (fe_t rfl) (by decide) rfl (fun b17 => ?_))
                                          refine tl_step rfl (oj_appendB (i := 4) (s := 1) (z := (.int .i64 0)) (bytes := 8) Try.underlying47 (by kernel_rfl) (fe_t rfl) (fe_t rfl) rfl (rdl_blk 0 rfl) rfl (by decide) (by first | exact oneI | exact oneF (fun _ => rfl) | exact fun u hu => List.all_eq_true.1 (show List.all _ (fun x => x.oneCell') = true from rfl) u hu | (intro u hu; revert u hu; simp [Value.oneCell'])) (by decide) ⟨by omega, by decide⟩ (fun Aa17 ca17 hca17 => ?_))
                                          refine tl_step rfl (oj_val (y_assign (fe_t rfl)) ?_)
                                          refine tl_nil ?_
                                          refine tx_in ?_
                                          refine tx_then ?_
                                          refine tr_region ?_
                                          refine tl_step rfl (oj_val (y_inc (fe_t rfl) fe_c (by omega)) ?_)
                                          refine tl_step rfl (oj_val (y_move (fe_t rfl)) ?_)
                                          refine tl_nil ?_
                                          apply tx_back5 (i + 1) (go s (os.getD i o0)) (_) ((⟨_, _, _, _⟩ : Vs)) ((⟨_, _, _, _⟩ : Vs))
                                          · exact (cov_cons (by first | rfl | exact v_int (by omega) | exact v_bool (by simp [*])) (cov_cons (by first | rfl | exact v_int (by omega) | exact v_bool (by simp [*])) (cov_cons (by first | rfl | exact v_int (by omega) | exact v_bool (by simp [*])) (cov_nil))))
                                          · repeat (first | exact over_nil | refine over_put rfl ?_ | refine over_drop rfl ?_)
                                          · exact fun w h => h.pick [3, 4, 5, 6] _ rfl (by decide)
                                          · exact ⟨⟨by omega, by rw [hs]; exact (run_next (by omega)).symm, by rw [go_f, p3]; exact hmr.put (os.getD i o0).id ((os.getD i o0).hi, (os.getD i o0).lo), Nat.le_trans (mput_len _ _ _) (by omega), ⟨by dsimp only; omega, by rw [go_errs]; simp; omega⟩, by rw [go_errs, ← p2, ← cI_app, ← hex]; rfl, by rw [go_stay (fun h9 => by have h8 := h9.2; omega)]; exact hpn, by rw [go_stay (fun h9 => by have h8 := h9.2; omega)]; exact hpx, by dsimp only; omega⟩, by omega⟩
                      · try (exfalso; omega)
                        all_goals
                          refine tl_skip rfl rfl rfl rfl ?_
                          refine tl_skip rfl rfl rfl rfl ?_
                          refine tl_skip rfl rfl rfl rfl ?_
                          refine tl_step rfl (oj_val (y_pickf (fe_t rfl) fe_c) ?_)
                          refine tl_step rfl (oj_val (y_assign (fe_t rfl)) ?_)
                          refine tl_nil ?_
                          refine tx_then ?_
                          refine tr_condf (fe_t rfl) ?_
                          refine tr_region ?_
                          refine tl_step rfl (oj_val (y_fieldAddr (td := 3) Try.underlying121 rfl rfl Try.sizeOf3 (o' := 0) rfl (fe_t rfl)) ?_)
                          refine tl_step rfl (oj_val (y_ldb 1 Try.isAgg3 (fe_t rfl) rfl rfl) ?_)
                          refine tl_step rfl (oj_val (y_gtr (fe_t rfl) fe_c) ?_)
                          refine tl_step rfl (oj_val (y_move (fe_t rfl)) ?_)
                          refine tl_splitp (d := 65) rfl (fun hq33 => ?_) (fun hq34 => ?_)
                          · try (exfalso; omega)
                            all_goals
                              refine tl_want rfl rfl rfl (oj_val (y_move (fe_t rfl)) ?_)
                              refine tl_want rfl rfl rfl (oj_val (y_not (fe_t rfl)) ?_)
                              refine tl_step rfl (oj_val (y_pickt (fe_t rfl) (fe_t rfl)) ?_)
                              refine tl_step rfl (oj_val (y_assign (fe_t rfl)) ?_)
                              refine tl_nil ?_
                              refine tx_then ?_
                              refine tr_cond (fe_t rfl) (fun hq35 => ?_) (fun hq36 => ?_)
                              · try (exfalso; omega)
                                all_goals
                                  obtain ⟨p1, p2, p3⟩ := bad (show err s.f (os.getD i o0) = 3 by first | exact err_2e (by omega) (hmr.emp.2 (by omega)) | exact err_3n (by omega) (hmr.nope (by first | assumption | (have h9 := ‹(!(mget m1 (os.getD i o0).id).isSome) = true›; simpa using h9)))) (by decide)
                                  refine tr_region ?_
                                  refine tl_step rfl (oj_val (y_assign fe_c) ?_)
                                  refine tl_nil ?_
                                  refine tx_in ?_
                                  refine tx_then ?_
                                  refine tr_region ?_
                                  refine tl_step rfl (oj_val (y_move (fe_t rfl)) ?_)
                                  refine tl_step rfl (oj_val (y_move (fe_t rfl)) ?_)
                                  refine tl_step rfl (oj_slice1 Try.underlying47 Try.sizeOf29 Try.zeroValue29 (fe_t rfl) (by decide) rfl (fun b18 => ?_))
                                  refine tl_step rfl (oj_appendB (i := 4) (s := 1) (z := (.int .i64 0)) (bytes := 8) Try.underlying47 (by kernel_rfl) (fe_t rfl) (fe_t rfl) rfl (rdl_blk 0 rfl) rfl (by decide) (by first | exact oneI | exact oneF (fun _ => rfl) | exact fun u hu => List.all_eq_true.1 (show List.all _ (fun x => x.oneCell') = true from rfl) u hu | (intro u hu; revert u hu; simp [Value.oneCell'])) (by decide) ⟨by omega, by decide⟩ (fun Aa18 ca18 hca18 => ?_))
                                  refine tl_step rfl (oj_val (y_assign (fe_t rfl)) ?_)
                                  refine tl_nil ?_
                                  refine tx_in ?_
                                  refine tx_then ?_
                                  refine tr_region ?_
                                  refine tl_step rfl (oj_val (y_inc (fe_t rfl) fe_c (by omega)) ?_)
                                  refine tl_step rfl (oj_val (y_move (fe_t rfl)) ?_)
                                  refine tl_nil ?_
                                  apply tx_back5 (i + 1) (go s (os.getD i o0)) (_) ((⟨_, _, _, _⟩ : Vs)) ((⟨_, _, _, _⟩ : Vs))
                                  · exact (cov_cons (by first | rfl | exact v_int (by omega) | exact v_bool (by simp [*])) (cov_cons (by first | rfl | exact v_int (by omega) | exact v_bool (by simp [*])) (cov_cons (by first | rfl | exact v_int (by omega) | exact v_bool (by simp [*])) (cov_nil))))
                                  · repeat (first | exact over_nil | refine over_put rfl ?_ | refine over_drop rfl ?_)
                                  · exact fun w h => h.pick [3, 4, 5, 6] _ rfl (by decide)
                                  · exact ⟨⟨by omega, by rw [hs]; exact (run_next (by omega)).symm, by rw [go_f, p3]; exact hmr, by omega, ⟨by dsimp only; omega, by rw [go_errs]; simp; omega⟩, by rw [go_errs, ← p2, ← cI_app, ← hex]; rfl, by rw [go_stay (fun h9 => by have h8 := h9.1; rw [← p2] at h8; exact absurd h8 (by decide))]; exact hpn, by rw [go_stay (fun h9 => by have h8 := h9.1; rw [← p2] at h8; exact absurd h8 (by decide))]; exact hpx, by dsimp only; omega⟩, by omega⟩
                              · try (exfalso; omega)
                                all_goals
                                  refine tr_seq ?_
                                  refine tr_region ?_
                                  refine tl_step rfl (oj_val (y_fieldAddr (td := 3) Try.underlying121 rfl rfl Try.sizeOf3 (o' := 0) rfl (fe_t rfl)) ?_)
                                  refine tl_step rfl (oj_val (y_ldb 1 Try.isAgg3 (fe_t rfl) rfl rfl) ?_)
                                  refine tl_step rfl (oj_val (y_eq (fe_t rfl) fe_c) ?_)
                                  refine tl_step rfl (oj_val (y_assign (fe_t rfl)) ?_)
                                  refine tl_nil ?_
                                  refine tx_then ?_
                                  refine tr_condp (fe_t rfl) (fun hq37 => ?_) (fun hq38 => ?_)
                                  · try (exfalso; omega)
                                    all_goals
                                      refine tr_seq ?_
                                      have hkd : (os.getD i o0).kind = 2 := by omega
                                      have hne : ¬ Emp s.f := fun h9 => by have h8 := hmr.emp.1 h9; omega
                                      obtain ⟨p1, p2, p3⟩ := good_2 hkd hne
                                      refine tr_region ?_
                                      refine tl_step rfl (oj_val (y_move (fe_t rfl)) ?_)
                                      refine tl_step rfl (oj_callF Try.call65 (fe_t rfl) fel_nil (fun w' hS => cminE (hS.pick [4, 5, 0, 1, 2, 3] [_, _, _, _, _, _] rfl (by decide)) hmr hne) (fun _ hmin => ?_))
                                      refine tl_step rfl (oj_val (y_assign (fe_t rfl)) ?_)
                                      refine tl_nil ?_
                                      refine tx_then ?_
                                      refine tr_seq ?_
                                      refine tr_region ?_
                                      refine tl_step rfl (oj_val (y_move (fe_t rfl)) ?_)
                                      refine tl_step rfl (oj_val (y_move (fe_t rfl)) ?_)
                                      refine tl_step rfl (oj_slice1 Try.underlying27 Try.sizeOf3 Try.zeroValue3 (fe_t rfl) (by decide) rfl (fun b19 => ?_))
                                      refine tl_step rfl (oj_appendB (i := 5) (s := 1) (z := (.int .i64 0)) (bytes := 8) Try.underlying27 (by kernel_rfl) (fe_t rfl) (fe_t rfl) rfl (rdl_blk 0 rfl) rfl (by decide) (by first | exact oneI | exact oneF (fun _ => rfl) | exact fun u hu => List.all_eq_true.1 (show List.all _ (fun x => x.oneCell') = true from rfl) u hu | (intro u hu; revert u hu; simp [Value.oneCell'])) (by decide) ⟨by omega, by decide⟩ (fun Aa19 ca19 hca19 => ?_))
                                      refine tl_step rfl (oj_val (y_assign (fe_t rfl)) ?_)
                                      refine tl_nil ?_
                                      refine tx_then ?_
                                      refine tr_pure (mp_nodup 2 rfl) (fun hnd => ?_)
                                      refine tr_region ?_
                                      refine tl_step rfl (oj_val (y_ldb 1 Try.isAgg128 (fe_t rfl) rfl rfl) ?_)
                                      refine tl_step rfl (oj_val (y_move (fe_t rfl)) ?_)
                                      refine tl_step rfl (oj_mapDel 2 Try.underlying128 Try.underlying3 (fe_t rfl) (fe_t rfl) rfl (?_))
                                      refine tl_nil ?_
                                      refine tx_in ?_
                                      refine tx_then ?_
                                      refine tr_region ?_
                                      refine tl_step rfl (oj_val (y_move (fe_t rfl)) ?_)
                                      refine tl_step rfl (oj_val (y_move (fe_t rfl)) ?_)
                                      refine tl_step rfl (oj_slice1 Try.underlying47 Try.sizeOf29 Try.zeroValue29 (fe_t rfl) (by decide) rfl (fun b20 => ?_))
                                      refine tl_step rfl (oj_appendB (i := 7) (s := 1) (z := (.int .i64 0)) (bytes := 8) Try.underlying47 (by kernel_rfl) (fe_t rfl) (fe_t rfl) rfl (rdl_blk 0 rfl) rfl (by decide) (by first | exact oneI | exact oneF (fun _ => rfl) | exact fun u hu => List.all_eq_true.1 (show List.all _ (fun x => x.oneCell') = true from rfl) u hu | (intro u hu; revert u hu; simp [Value.oneCell'])) (by decide) ⟨by omega, by decide⟩ (fun Aa20 ca20 hca20 => ?_))
                                      refine tl_step rfl (oj_val (y_assign (fe_t rfl)) ?_)
                                      refine tl_nil ?_
                                      refine tx_in ?_
                                      refine tx_then ?_
                                      refine tr_region ?_
                                      refine tl_step rfl (oj_val (y_inc (fe_t rfl) fe_c (by omega)) ?_)
                                      refine tl_step rfl (oj_val (y_move (fe_t rfl)) ?_)
                                      refine tl_nil ?_
                                      apply tx_back5 (i + 1) (go s (os.getD i o0)) (_) ((⟨_, _, _, _⟩ : Vs)) ((⟨_, _, _, _⟩ : Vs))
                                      · exact (cov_cons (by first | rfl | exact v_int (by omega) | exact v_bool (by simp [*])) (cov_cons (by first | rfl | exact v_int (by omega) | exact v_bool (by simp [*])) (cov_cons (by first | rfl | exact v_int (by omega) | exact v_bool (by simp [*])) (cov_nil))))
                                      · repeat (first | exact over_nil | refine over_put rfl ?_ | refine over_drop rfl ?_)
                                      · exact fun w h => h.pick [6, 7, 2, 3] _ rfl (by decide)
                                      · exact ⟨⟨by omega, by rw [hs]; exact (run_next (by omega)).symm, by rw [go_f, p3]; exact hmr.del hnd _, by have := mdel_le m1 (amin s.f); omega, ⟨by dsimp only; omega, by rw [go_errs]; simp; omega⟩, by rw [go_errs, ← p2, ← cI_app, ← hex]; rfl, by rw [go_pops p2.symm hkd]; simp; omega, by rw [go_pops p2.symm hkd, p1, ← cI_app, ← hpx]; rfl, by dsimp only; omega⟩, by omega⟩
                                  · try (exfalso; omega)
                                    all_goals
                                      refine tr_seq ?_
                                      refine tr_region ?_
                                      refine tl_step rfl (oj_val (y_fieldAddr (td := 3) Try.underlying121 rfl rfl Try.sizeOf3 (o' := 0) rfl (fe_t rfl)) ?_)
                                      refine tl_step rfl (oj_val (y_ldb 1 Try.isAgg3 (fe_t rfl) rfl rfl) ?_)
                                      refine tl_step rfl (oj_val (y_eq (fe_t rfl) fe_c) ?_)
                                      refine tl_step rfl (oj_val (y_assign (fe_t rfl)) ?_)
                                      refine tl_nil ?_
                                      refine tx_then ?_
                                      refine tr_condp (fe_t rfl) (fun hq39 => ?_) (fun hq40 => ?_)
                                      · try (exfalso; omega)
                                        all_goals
                                          obtain ⟨p1, p2, p3⟩ := good_3 (f := s.f) (o := (os.getD i o0)) (by omega) (hmr.yes (by first | assumption | (have h9 := ‹(!(mget m1 (os.getD i o0).id).isSome) = false›; simpa using h9)))
                                          refine tr_pure (mp_nodup 5 rfl) (fun hnd => ?_)
                                          refine tr_region ?_
                                          refine tl_step rfl (oj_val (y_ldb 4 Try.isAgg128 (fe_t rfl) rfl rfl) ?_)
                                          refine tl_step rfl (oj_val (y_fieldAddr (td := 3) Try.underlying121 rfl rfl Try.sizeOf3 (o' := 1) rfl (fe_t rfl)) ?_)
                                          refine tl_step rfl (oj_val (y_ldb 1 Try.isAgg3 (fe_t rfl) rfl rfl) ?_)
                                          refine tl_step rfl (oj_mapDel 5 Try.underlying128 Try.underlying3 (fe_t rfl) (fe_t rfl) rfl (?_))
                                          refine tl_nil ?_
                                          refine tx_in ?_
                                          refine tx_then ?_
                                          refine tr_region ?_
                                          refine tl_step rfl (oj_val (y_move (fe_t rfl)) ?_)
                                          refine tl_step rfl (oj_val (y_move (fe_t rfl)) ?_)
                                          refine tl_step rfl (oj_slice1 Try.underlying47 Try.sizeOf29 Try.zeroValue29 (fe_t rfl) (by decide) rfl (fun b21 => ?_))
                                          refine tl_step rfl (oj_appendB (i := 4) (s := 1) (z := (.int .i64 0)) (bytes := 8) Try.underlying47 (by kernel_rfl) (fe_t rfl) (fe_t rfl) rfl (rdl_blk 0 rfl) rfl (by decide) (by first | exact oneI | exact oneF (fun _ => rfl) | exact fun u hu => List.all_eq_true.1 (show List.all _ (fun x => x.oneCell') = true from rfl) u hu | (intro u hu; revert u hu; simp [Value.oneCell'])) (by decide) ⟨by omega, by decide⟩ (fun Aa21 ca21 hca21 => ?_))
                                          refine tl_step rfl (oj_val (y_assign (fe_t rfl)) ?_)
                                          refine tl_nil ?_
                                          refine tx_in ?_
                                          refine tx_then ?_
                                          refine tr_region ?_
                                          refine tl_step rfl (oj_val (y_inc (fe_t rfl) fe_c (by omega)) ?_)
                                          refine tl_step rfl (oj_val (y_move (fe_t rfl)) ?_)
                                          refine tl_nil ?_
                                          apply tx_back5 (i + 1) (go s (os.getD i o0)) (_) ((⟨_, _, _, _⟩ : Vs)) ((⟨_, _, _, _⟩ : Vs))
                                          · exact (cov_cons (by first | rfl | exact v_int (by omega) | exact v_bool (by simp [*])) (cov_cons (by first | rfl | exact v_int (by omega) | exact v_bool (by simp [*])) (cov_cons (by first | rfl | exact v_int (by omega) | exact v_bool (by simp [*])) (cov_nil))))
                                          · repeat (first | exact over_nil | refine over_put rfl ?_ | refine over_drop rfl ?_)
                                          · exact fun w h => h.pick [3, 4, 5, 6] _ rfl (by decide)
                                          · exact ⟨⟨by omega, by rw [hs]; exact (run_next (by omega)).symm, by rw [go_f, p3]; exact hmr.del hnd _, by have := mdel_le m1 (os.getD i o0).id; omega, ⟨by dsimp only; omega, by rw [go_errs]; simp; omega⟩, by rw [go_errs, ← p2, ← cI_app, ← hex]; rfl, by rw [go_stay (fun h9 => by have h8 := h9.2; omega)]; exact hpn, by rw [go_stay (fun h9 => by have h8 := h9.2; omega)]; exact hpx, by dsimp only; omega⟩, by omega⟩
                                      · try (exfalso; omega)
                                        all_goals
                                          obtain ⟨p1, p2, p3⟩ : pop s.f (os.getD i o0) = 0 ∧ 0 = err s.f (os.getD i o0) ∧ nxt s.f (os.getD i o0) = upd s.f (os.getD i o0).id (some ((os.getD i o0).hi, (os.getD i o0).lo)) := by
                                            first
                                              | exact good_1 (by omega) (hmr.nope (by first | assumption | (have h9 := ‹(!(mget m1 (os.getD i o0).id).isSome) = true›; simpa using h9)))
                                              | exact good_4 (by omega) (hmr.yes (by first | assumption | (have h9 := ‹(!(mget m1 (os.getD i o0).id).isSome) = false›; simpa using h9)))
                                          refine tr_region ?_
                                          refine tl_step rfl (oj_val (y_ldb 4 Try.isAgg128 (fe_t rfl) rfl rfl) ?_)
                                          refine tl_step rfl (oj_val (y_fieldAddr (td := 3) Try.underlying121 rfl rfl Try.sizeOf3 (o' := 1) rfl (fe_t rfl)) ?_)
                                          refine tl_step rfl (oj_val (y_ldb 1 Try.isAgg3 (fe_t rfl) rfl rfl) ?_)
                                          refine tl_step rfl (oj_val (y_fieldAddr (td := 119) Try.underlying121 rfl rfl Try.sizeOf119 (o' := 2) rfl (fe_t rfl)) ?_)
                                          refine tl_step rfl (oj_val (y_ldbA 1 Try.isAgg119 Try.sizeOf119 (fe_t rfl) rfl rfl rfl) ?_)
                                          refine tl_step rfl (oj_mapPut 5 Try.underlying128 Try.underlying3 (fe_t rfl) (fe_t rfl) (fe_t rfl) rfl (.inl rfl) (?_))
                                          refine tl_nil ?_
                                          refine tx_in ?_
                                          refine tx_then ?_
                                          refine tr_region ?_
                                          refine tl_step rfl (oj_val (y_move (fe_t rfl)) ?_)
                                          refine tl_step rfl (oj_val (y_move (fe_t rfl)) ?_)
                                          refine tl_step rfl (oj_slice1 Try.underlying47 Try.sizeOf29 Try.zeroValue29 (fe_t rfl) (by decide) rfl (fun b22 => ?_))
                                          refine tl_step rfl (oj_appendB (i := 4) (s := 1) (z := (.int .i64 0)) (bytes := 8) Try.underlying47 (by kernel_rfl) (fe_t rfl) (fe_t rfl) rfl (rdl_blk 0 rfl) rfl (by decide) (by first | exact oneI | exact oneF (fun _ => rfl) | exact fun u hu => List.all_eq_true.1 (show List.all _ (fun x => x.oneCell') = true from rfl) u hu | (intro u hu; revert u hu; simp [Value.oneCell'])) (by decide) ⟨by omega, by decide⟩ (fun Aa22 ca22 hca22 => ?_))
                                          refine tl_step rfl (oj_val (y_assign (fe_t rfl)) ?_)
                                          refine tl_nil ?_
                                          refine tx_in ?_
                                          refine tx_then ?_
                                          refine tr_region ?_
                                          refine tl_step rfl (oj_val (y_inc (fe_t rfl) fe_c (by omega)) ?_)
                                          refine tl_step rfl (oj_val (y_move (fe_t rfl)) ?_)
                                          refine tl_nil ?_
                                          apply tx_back5 (i + 1) (go s (os.getD i o0)) (_) ((⟨_, _, _, _⟩ : Vs)) ((⟨_, _, _, _⟩ : Vs))
                                          · exact (cov_cons (by first | rfl | exact v_int (by omega) | exact v_bool (by simp [*])) (cov_cons (by first | rfl | exact v_int (by omega) | exact v_bool (by simp [*])) (cov_cons (by first | rfl | exact v_int (by omega) | exact v_bool (by simp [*])) (cov_nil))))
                                          · repeat (first | exact over_nil | refine over_put rfl ?_ | refine over_drop rfl ?_)
                                          · exact fun w h => h.pick [3, 4, 5, 6] _ rfl (by decide)
                                          · exact ⟨⟨by omega, by rw [hs]; exact (run_next (by omega)).symm, by rw [go_f, p3]; exact hmr.put (os.getD i o0).id ((os.getD i o0).hi, (os.getD i o0).lo), Nat.le_trans (mput_len _ _ _) (by omega), ⟨by dsimp only; omega, by rw [go_errs]; simp; omega⟩, by rw [go_errs, ← p2, ← cI_app, ← hex]; rfl, by rw [go_stay (fun h9 => by have h8 := h9.2; omega)]; exact hpn, by rw [go_stay (fun h9 => by have h8 := h9.2; omega)]; exact hpx, by dsimp only; omega⟩, by omega⟩
                          · try (exfalso; omega)
                            all_goals
                              refine tl_skip rfl rfl rfl rfl ?_
                              refine tl_skip rfl rfl rfl rfl ?_
                              refine tl_step rfl (oj_val (y_pickf (fe_t rfl) fe_c) ?_)
                              refine tl_step rfl (oj_val (y_assign (fe_t rfl)) ?_)
                              refine tl_nil ?_
                              refine tx_then ?_
                              refine tr_condf (fe_t rfl) ?_
                              refine tr_seq ?_
                              refine tr_region ?_
                              refine tl_step rfl (oj_val (y_fieldAddr (td := 3) Try.underlying121 rfl rfl Try.sizeOf3 (o' := 0) rfl (fe_t rfl)) ?_)
                              refine tl_step rfl (oj_val (y_ldb 1 Try.isAgg3 (fe_t rfl) rfl rfl) ?_)
                              refine tl_step rfl (oj_val (y_eq (fe_t rfl) fe_c) ?_)
                              refine tl_step rfl (oj_val (y_assign (fe_t rfl)) ?_)
                              refine tl_nil ?_
                              refine tx_then ?_
                              refine tr_condp (fe_t rfl) (fun hq41 => ?_) (fun hq42 => ?_)
                              · try (exfalso; omega)
                                all_goals
                                  refine tr_seq ?_
                                  have hkd : (os.getD i o0).kind = 2 := by omega
                                  have hne : ¬ Emp s.f := fun h9 => by have h8 := hmr.emp.1 h9; omega
                                  obtain ⟨p1, p2, p3⟩ := good_2 hkd hne
                                  refine tr_region ?_
                                  refine tl_step rfl (oj_val (y_move (fe_t rfl)) ?_)
                                  refine tl_step rfl (oj_callF Try.call65 (fe_t rfl) fel_nil (fun w' hS => cminE (hS.pick [4, 5, 0, 1, 2, 3] [_, _, _, _, _, _] rfl (by decide)) hmr hne) (fun _ hmin => ?_))
                                  refine tl_step rfl (oj_val (y_assign (fe_t rfl)) ?_)
                                  refine tl_nil ?_
                                  refine tx_then ?_
                                  refine tr_seq ?_
                                  refine tr_region ?_
                                  refine tl_step rfl (oj_val (y_move (fe_t rfl)) ?_)
                                  refine tl_step rfl (oj_val (y_move (fe_t rfl)) ?_)
                                  refine tl_step rfl (oj_slice1 Try.underlying27 Try.sizeOf3 Try.zeroValue3 (fe_t rfl) (by decide) rfl (fun b23 => ?_))
                                  refine tl_step rfl (oj_appendB (i := 5) (s := 1) (z := (.int .i64 0)) (bytes := 8) Try.underlying27 (by kernel_rfl) (fe_t rfl) (fe_t rfl) rfl (rdl_blk 0 rfl) rfl (by decide) (by first | exact oneI | exact oneF (fun _ => rfl) | exact fun u hu => List.all_eq_true.1 (show List.all _ (fun x => x.oneCell') = true from rfl) u hu | (intro u hu; revert u hu; simp [Value.oneCell'])) (by decide) ⟨by omega, by decide⟩ (fun Aa23 ca23 hca23 => ?_))
                                  refine tl_step rfl (oj_val (y_assign (fe_t rfl)) ?_)
                                  refine tl_nil ?_
                                  refine tx_then ?_
                                  refine tr_pure (mp_nodup 2 rfl) (fun hnd => ?_)
                                  refine tr_region ?_
                                  refine tl_step rfl (oj_val (y_ldb 1 Try.isAgg128 (fe_t rfl) rfl rfl) ?_)
                                  refine tl_step rfl (oj_val (y_move (fe_t rfl)) ?_)
                                  refine tl_step rfl (oj_mapDel 2 Try.underlying128 Try.underlying3 (fe_t rfl) (fe_t rfl) rfl (?_))
                                  refine tl_nil ?_
                                  refine tx_in ?_
                                  refine tx_then ?_
                                  refine tr_region ?_
                                  refine tl_step rfl (oj_val (y_move (fe_t rfl)) ?_)
                                  refine tl_step rfl (oj_val (y_move (fe_t rfl)) ?_)
                                  refine tl_step rfl (oj_slice1 Try.underlying47 Try.sizeOf29 Try.zeroValue29 (fe_t rfl) (by decide) rfl (fun b24 => ?_))
                                  refine tl_step rfl (oj_appendB (i := 7) (s := 1) (z := (.int .i64 0)) (bytes := 8) Try.underlying47 (by kernel_rfl) (fe_t rfl) (fe_t rfl) rfl (rdl_blk 0 rfl) rfl (by decide) (by first | exact oneI | exact oneF (fun _ => rfl) | exact fun u hu => List.all_eq_true.1 (show List.all _ (fun x => x.oneCell') = true from rfl) u hu | (intro u hu; revert u hu; simp [Value.oneCell'])) (by decide) ⟨by omega, by decide⟩ (fun Aa24 ca24 hca24 => ?_))
                                  refine tl_step rfl (oj_val (y_assign (fe_t rfl)) ?_)
                                  refine tl_nil ?_
                                  refine tx_in ?_
                                  refine tx_then ?_
                                  refine tr_region ?_
                                  refine tl_step rfl (oj_val (y_inc (fe_t rfl) fe_c (by omega)) ?_)
                                  refine tl_step rfl (oj_val (y_move (fe_t rfl)) ?_)
                                  refine tl_nil ?_
                                  apply tx_back5 (i + 1) (go s (os.getD i o0)) (_) ((⟨_, _, _, _⟩ : Vs)) ((⟨_, _, _, _⟩ : Vs))
                                  · exact (cov_cons (by first | rfl | exact v_int (by omega) | exact v_bool (by simp [*])) (cov_cons (by first | rfl | exact v_int (by omega) | exact v_bool (by simp [*])) (cov_cons (by first | rfl | exact v_int (by omega) | exact v_bool (by simp [*])) (cov_nil))))
                                  · repeat (first | exact over_nil | refine over_put rfl ?_ | refine over_drop rfl ?_)
                                  · exact fun w h => h.pick [6, 7, 2, 3] _ rfl (by decide)
                                  · exact ⟨⟨by omega, by rw [hs]; exact (run_next (by omega)).symm, by rw [go_f, p3]; exact hmr.del hnd _, by have := mdel_le m1 (amin s.f); omega, ⟨by dsimp only; omega, by rw [go_errs]; simp; omega⟩, by rw [go_errs, ← p2, ← cI_app, ← hex]; rfl, by rw [go_pops p2.symm hkd]; simp; omega, by rw [go_pops p2.symm hkd, p1, ← cI_app, ← hpx]; rfl, by dsimp only; omega⟩, by omega⟩
                              · try (exfalso; omega)
                                all_goals
                                  refine tr_seq ?_
                                  refine tr_region ?_
                                  refine tl_step rfl (oj_val (y_fieldAddr (td := 3) Try.underlying121 rfl rfl Try.sizeOf3 (o' := 0) rfl (fe_t rfl)) ?_)
                                  refine tl_step rfl (oj_val (y_ldb 1 Try.isAgg3 (fe_t rfl) rfl rfl) ?_)
                                  refine tl_step rfl (oj_val (y_eq (fe_t rfl) fe_c) ?_)
                                  refine tl_step rfl (oj_val (y_assign (fe_t rfl)) ?_)
                                  refine tl_nil ?_
                                  refine tx_then ?_
                                  refine tr_condp (fe_t rfl) (fun hq43 => ?_) (fun hq44 => ?_)
                                  · try (exfalso; omega)
                                    all_goals
                                      obtain ⟨p1, p2, p3⟩ := good_3 (f := s.f) (o := (os.getD i o0)) (by omega) (hmr.yes (by first | assumption | (have h9 := ‹(!(mget m1 (os.getD i o0).id).isSome) = false›; simpa using h9)))
                                      refine tr_pure (mp_nodup 5 rfl) (fun hnd => ?_)
                                      refine tr_region ?_
                                      refine tl_step rfl (oj_val (y_ldb 4 Try.isAgg128 (fe_t rfl) rfl rfl) ?_)
                                      refine tl_step rfl (oj_val (y_fieldAddr (td := 3) Try.underlying121 rfl rfl Try.sizeOf3 (o' := 1) rfl (fe_t rfl)) ?_)
                                      refine tl_step rfl (oj_val (y_ldb 1 Try.isAgg3 (fe_t rfl) rfl rfl) ?_)
                                      refine tl_step rfl (oj_mapDel 5 Try.underlying128 Try.underlying3 (fe_t rfl) (fe_t rfl) rfl (?_))
                                      refine tl_nil ?_
                                      refine tx_in ?_
                                      refine tx_then ?_
                                      refine tr_region ?_
                                      refine tl_step rfl (oj_val (y_move (fe_t rfl)) ?_)
                                      refine tl_step rfl (oj_val (y_move (fe_t rfl)) ?_)
                                      refine tl_step rfl (oj_slice1 Try.underlying47 Try.sizeOf29 Try.zeroValue29 (fe_t rfl) (by decide) rfl (fun b25 => ?_))
                                      refine tl_step rfl (oj_appendB (i := 4) (s := 1) (z := (.int .i64 0)) (bytes := 8) Try.underlying47 (by kernel_rfl) (fe_t rfl) (fe_t rfl) rfl (rdl_blk 0 rfl) rfl (by decide) (by first | exact oneI | exact oneF (fun _ => rfl) | exact fun u hu => List.all_eq_true.1 (show List.all _ (fun x => x.oneCell') = true from rfl) u hu | (intro u hu; revert u hu; simp [Value.oneCell'])) (by decide) ⟨by omega, by decide⟩ (fun Aa25 ca25 hca25 => ?_))
                                      refine tl_step rfl (oj_val (y_assign (fe_t rfl)) ?_)
                                      refine tl_nil ?_
                                      refine tx_in ?_
                                      refine tx_then ?_
                                      refine tr_region ?_
                                      refine tl_step rfl (oj_val (y_inc (fe_t rfl) fe_c (by omega)) ?_)
                                      refine tl_step rfl (oj_val (y_move (fe_t rfl)) ?_)
                                      refine tl_nil ?_
                                      apply tx_back5 (i + 1) (go s (os.getD i o0)) (_) ((⟨_, _, _, _⟩ : Vs)) ((⟨_, _, _, _⟩ : Vs))
                                      · exact (cov_cons (by first | rfl | exact v_int (by omega) | exact v_bool (by simp [*])) (cov_cons (by first | rfl | exact v_int (by omega) | exact v_bool (by simp [*])) (cov_cons (by first | rfl | exact v_int (by omega) | exact v_bool (by simp [*])) (cov_nil))))
                                      · repeat (first | exact over_nil | refine over_put rfl ?_ | refine over_drop rfl ?_)
                                      · exact fun w h => h.pick [3, 4, 5, 6] _ rfl (by decide)
                                      · exact ⟨⟨by omega, by rw [hs]; exact (run_next (by omega)).symm, by rw [go_f, p3]; exact hmr.del hnd _, by have := mdel_le m1 (os.getD i o0).id; omega, ⟨by dsimp only; omega, by rw [go_errs]; simp; omega⟩, by rw [go_errs, ← p2, ← cI_app, ← hex]; rfl, by rw [go_stay (fun h9 => by have h8 := h9.2; omega)]; exact hpn, by rw [go_stay (fun h9 => by have h8 := h9.2; omega)]; exact hpx, by dsimp only; omega⟩, by omega⟩
                                  · try (exfalso; omega)
                                    all_goals
                                      obtain ⟨p1, p2, p3⟩ : pop s.f (os.getD i o0) = 0 ∧ 0 = err s.f (os.getD i o0) ∧ nxt s.f (os.getD i o0) = upd s.f (os.getD i o0).id (some ((os.getD i o0).hi, (os.getD i o0).lo)) := by
                                        first
                                          | exact good_1 (by omega) (hmr.nope (by first | assumption | (have h9 := ‹(!(mget m1 (os.getD i o0).id).isSome) = true›; simpa using h9)))
                                          | exact good_4 (by omega) (hmr.yes (by first | assumption | (have h9 := ‹(!(mget m1 (os.getD i o0).id).isSome) = false›; simpa using h9)))
                                      refine tr_region ?_
                                      refine tl_step rfl (oj_val (y_ldb 4 Try.isAgg128 (fe_t rfl) rfl rfl) ?_)
                                      refine tl_step rfl (oj_val (y_fieldAddr (td := 3) Try.underlying121 rfl rfl Try.sizeOf3 (o' := 1) rfl (fe_t rfl)) ?_)
                                      refine tl_step rfl (oj_val (y_ldb 1 Try.isAgg3 (fe_t rfl) rfl rfl) ?_)
                                      refine tl_step rfl (oj_val (y_fieldAddr (td := 119) Try.underlying121 rfl rfl Try.sizeOf119 (o' := 2) rfl (fe_t rfl)) ?_)
                                      refine tl_step rfl (oj_val (y_ldbA 1 Try.isAgg119 Try.sizeOf119 (fe_t rfl) rfl rfl rfl) ?_)
                                      refine tl_step rfl (oj_mapPut 5 Try.underlying128 Try.underlying3 (fe_t rfl) (fe_t rfl) (fe_t rfl) rfl (.inl rfl) (?_))
                                      refine tl_nil ?_
                                      refine tx_in ?_
                                      refine tx_then ?_
                                      refine tr_region ?_
                                      refine tl_step rfl (oj_val (y_move (fe_t rfl)) ?_)
                                      refine tl_step rfl (oj_val (y_move (fe_t rfl)) ?_)
                                      refine tl_step rfl (oj_slice1 Try.underlying47 Try.sizeOf29 Try.zeroValue29 (fe_t rfl) (by decide) rfl (fun b26 => ?_))
                                      refine tl_step rfl (oj_appendB (i := 4) (s := 1) (z := (.int .i64 0)) (bytes := 8) Try.underlying47 (by kernel_rfl) (fe_t rfl) (fe_t rfl) rfl (rdl_blk 0 rfl) rfl (by decide) (by first | exact oneI | exact oneF (fun _ => rfl) | exact fun u hu => List.all_eq_true.1 (show List.all _ (fun x => x.oneCell') = true from rfl) u hu | (intro u hu; revert u hu; simp [Value.oneCell'])) (by decide) ⟨by omega, by decide⟩ (fun Aa26 ca26 hca26 => ?_))
                                      refine tl_step rfl (oj_val (y_assign (fe_t rfl)) ?_)
                                      refine tl_nil ?_
                                      refine tx_in ?_
                                      refine tx_then ?_
                                      refine tr_region ?_
                                      refine tl_step rfl (oj_val (y_inc (fe_t rfl) fe_c (by omega)) ?_)
                                      refine tl_step rfl (oj_val (y_move (fe_t rfl)) ?_)
                                      refine tl_nil ?_
                                      apply tx_back5 (i + 1) (go s (os.getD i o0)) (_) ((⟨_, _, _, _⟩ : Vs)) ((⟨_, _, _, _⟩ : Vs))
                                      · exact (cov_cons (by first | rfl | exact v_int (by omega) | exact v_bool (by simp [*])) (cov_cons (by first | rfl | exact v_int (by omega) | exact v_bool (by simp [*])) (cov_cons (by first | rfl | exact v_int (by omega) | exact v_bool (by simp [*])) (cov_nil))))
                                      · repeat (first | exact over_nil | refine over_put rfl ?_ | refine over_drop rfl ?_)
                                      · exact fun w h => h.pick [3, 4, 5, 6] _ rfl (by decide)
                                      · exact ⟨⟨by omega, by rw [hs]; exact (run_next (by omega)).symm, by rw [go_f, p3]; exact hmr.put (os.getD i o0).id ((os.getD i o0).hi, (os.getD i o0).lo), Nat.le_trans (mput_len _ _ _) (by omega), ⟨by dsimp only; omega, by rw [go_errs]; simp; omega⟩, by rw [go_errs, ← p2, ← cI_app, ← hex]; rfl, by rw [go_stay (fun h9 => by have h8 := h9.2; omega)]; exact hpn, by rw [go_stay (fun h9 => by have h8 := h9.2; omega)]; exact hpx, by dsimp only; omega⟩, by omega⟩
              · try (exfalso; omega)
                all_goals
                  refine tl_skip rfl rfl rfl rfl ?_
                  refine tl_step rfl (oj_val (y_pickf (fe_t rfl) fe_c) ?_)
                  refine tl_step rfl (oj_val (y_assign (fe_t rfl)) ?_)
                  refine tl_nil ?_
                  refine tx_then ?_
                  refine tr_condf (fe_t rfl) ?_
                  refine tr_seq ?_
                  refine tr_seq ?_
                  refine tr_region ?_
                  refine tl_step rfl (oj_val (y_fieldAddr (td := 3) Try.underlying121 rfl rfl Try.sizeOf3 (o' := 0) rfl (fe_t rfl)) ?_)
                  refine tl_step rfl (oj_val (y_ldb 1 Try.isAgg3 (fe_t rfl) rfl rfl) ?_)
                  refine tl_step rfl (oj_val (y_eq (fe_t rfl) fe_c) ?_)
                  refine tl_step rfl (oj_val (y_move (fe_t rfl)) ?_)
                  refine tl_splitp (d := 57) rfl (fun hq45 => ?_) (fun hq46 => ?_)
                  · try (exfalso; omega)
                    all_goals
                      refine tl_want rfl rfl rfl (oj_val (y_ldb 4 Try.isAgg128 (fe_t rfl) rfl rfl) ?_)
                      refine tl_want rfl rfl rfl (oj_val (y_mlen 5 Try.underlying128 (fe_t rfl) rfl) ?_)
                      refine tl_want rfl rfl rfl (oj_val (y_eq (fe_t rfl) fe_c) ?_)
                      refine tl_step rfl (oj_val (y_pickt (fe_t rfl) (fe_t rfl)) ?_)
                      refine tl_step rfl (oj_val (y_assign (fe_t rfl)) ?_)
                      refine tl_nil ?_
                      refine tx_then ?_
                      refine tr_condp (fe_t rfl) (fun hq47 => ?_) (fun hq48 => ?_)
                      · try (exfalso; omega)
                        all_goals
                          refine tr_skip ?_
                          refine tx_then ?_
                          refine tr_condp (fe_t rfl) (fun hq49 => ?_) (fun hq50 => ?_)
                          · try (exfalso; omega)
                            all_goals
                              obtain ⟨p1, p2, p3⟩ := bad (show err s.f (os.getD i o0) = 3 by first | exact err_2e (by omega) (hmr.emp.2 (by omega)) | exact err_3n (by omega) (hmr.nope (by first | assumption | (have h9 := ‹(!(mget m1 (os.getD i o0).id).isSome) = true›; simpa using h9)))) (by decide)
                              refine tr_region ?_
                              refine tl_step rfl (oj_val (y_assign fe_c) ?_)
                              refine tl_nil ?_
                              refine tx_in ?_
                              refine tx_then ?_
                              refine tr_region ?_
                              refine tl_step rfl (oj_val (y_move (fe_t rfl)) ?_)
                              refine tl_step rfl (oj_val (y_move (fe_t rfl)) ?_)
                              refine tl_step rfl (oj_slice1 Try.underlying47 Try.sizeOf29 Try.zeroValue29 (fe_t rfl) (by decide) rfl (fun b27 => ?_))
                              refine tl_step rfl (oj_appendB (i := 4) (s := 1) (z := (.int .i64 0)) (bytes := 8) Try.underlying47 (by kernel_rfl) (fe_t rfl) (fe_t rfl) rfl (rdl_blk 0 rfl) rfl (by decide) (by first | exact oneI | exact oneF (fun _ => rfl) | exact fun u hu => List.all_eq_true.1 (show List.all _ (fun x => x.oneCell') = true from rfl) u hu | (intro u hu; revert u hu; simp [Value.oneCell'])) (by decide) ⟨by omega, by decide⟩ (fun Aa27 ca27 hca27 => ?_))
                              refine tl_step rfl (oj_val (y_assign (fe_t rfl)) ?_)
                              refine tl_nil ?_
                              refine tx_in ?_
                              refine tx_then ?_
                              refine tr_region ?_
                              refine tl_step rfl (oj_val (y_inc (fe_t rfl) fe_c (by omega)) ?_)
                              refine tl_step rfl (oj_val (y_move (fe_t rfl)) ?_)
                              refine tl_nil ?_
                              apply tx_back5 (i + 1) (go s (os.getD i o0)) (_) ((⟨_, _, _, _⟩ : Vs)) ((⟨_, _, _, _⟩ : Vs))
                              · exact (cov_cons (by first | rfl | exact v_int (by omega) | exact v_bool (by simp [*])) (cov_cons (by first | rfl | exact v_int (by omega) | exact v_bool (by simp [*])) (cov_cons (by first | rfl | exact v_int (by omega) | exact v_bool (by simp [*])) (cov_nil))))
                              · repeat (first | exact over_nil | refine over_put rfl ?_ | refine over_drop rfl ?_)
                              · exact fun w h => h.pick [3, 4, 5, 6] _ rfl (by decide)
                              · exact ⟨⟨by omega, by rw [hs]; exact (run_next (by omega)).symm, by rw [go_f, p3]; exact hmr, by omega, ⟨by dsimp only; omega, by rw [go_errs]; simp; omega⟩, by rw [go_errs, ← p2, ← cI_app, ← hex]; rfl, by rw [go_stay (fun h9 => by have h8 := h9.1; rw [← p2] at h8; exact absurd h8 (by decide))]; exact hpn, by rw [go_stay (fun h9 => by have h8 := h9.1; rw [← p2] at h8; exact absurd h8 (by decide))]; exact hpx, by dsimp only; omega⟩, by omega⟩
                          · try (exfalso; omega)
                            all_goals
                              refine tr_seq ?_
                              refine tr_region ?_
                              refine tl_step rfl (oj_val (y_fieldAddr (td := 3) Try.underlying121 rfl rfl Try.sizeOf3 (o' := 0) rfl (fe_t rfl)) ?_)
                              refine tl_step rfl (oj_val (y_ldb 1 Try.isAgg3 (fe_t rfl) rfl rfl) ?_)
                              refine tl_step rfl (oj_val (y_eq (fe_t rfl) fe_c) ?_)
                              refine tl_step rfl (oj_val (y_assign (fe_t rfl)) ?_)
                              refine tl_nil ?_
                              refine tx_then ?_
                              refine tr_condp (fe_t rfl) (fun hq51 => ?_) (fun hq52 => ?_)
                              · try (exfalso; omega)
                                all_goals
                                  refine tr_seq ?_
                                  have hkd : (os.getD i o0).kind = 2 := by omega
                                  have hne : ¬ Emp s.f := fun h9 => by have h8 := hmr.emp.1 h9; omega
                                  obtain ⟨p1, p2, p3⟩ := good_2 hkd hne
                                  refine tr_region ?_
                                  refine tl_step rfl (oj_val (y_move (fe_t rfl)) ?_)
                                  refine tl_step rfl (oj_callF Try.call65 (fe_t rfl) fel_nil (fun w' hS => cminE (hS.pick [4, 5, 0, 1, 2, 3] [_, _, _, _, _, _] rfl (by decide)) hmr hne) (fun _ hmin => ?_))
                                  refine tl_step rfl (oj_val (y_assign (fe_t rfl)) ?_)
                                  refine tl_nil ?_
                                  refine tx_then ?_
                                  refine tr_seq ?_
                                  refine tr_region ?_
                                  refine tl_step rfl (oj_val (y_move (fe_t rfl)) ?_)
                                  refine tl_step rfl (oj_val (y_move (fe_t rfl)) ?_)
                                  refine tl_step rfl (oj_slice1 Try.underlying27 Try.sizeOf3 Try.zeroValue3 (fe_t rfl) (by decide) rfl (fun b28 => ?_))
                                  refine tl_step rfl (oj_appendB (i := 5) (s := 1) (z := (.int .i64 0)) (bytes := 8) Try.underlying27 (by kernel_rfl) (fe_t rfl) (fe_t rfl) rfl (rdl_blk 0 rfl) rfl (by decide) (by first | exact oneI | exact oneF (fun _ => rfl) | exact fun u hu => List.all_eq_true.1 (show List.all _ (fun x => x.oneCell') = true from rfl) u hu | (intro u hu; revert u hu; simp [Value.oneCell'])) (by decide) ⟨by omega, by decide⟩ (fun Aa28 ca28 hca28 => ?_))
                                  refine tl_step rfl (oj_val (y_assign (fe_t rfl)) ?_)
                                  refine tl_nil ?_
                                  refine tx_then ?_
                                  refine tr_pure (mp_nodup 2 rfl) (fun hnd => ?_)
                                  refine tr_region ?_
                                  refine tl_step rfl (oj_val (y_ldb 1 Try.isAgg128 (fe_t rfl) rfl rfl) ?_)
                                  refine tl_step rfl (oj_val (y_move (fe_t rfl)) ?_)
                                  refine tl_step rfl (oj_mapDel 2 Try.underlying128 Try.underlying3 (fe_t rfl) (fe_t rfl) rfl (?_))
                                  refine tl_nil ?_
                                  refine tx_in ?_
                                  refine tx_then ?_
                                  refine tr_region ?_
                                  refine tl_step rfl (oj_val (y_move (fe_t rfl)) ?_)
                                  refine tl_step rfl (oj_val (y_move (fe_t rfl)) ?_)
                                  refine tl_step rfl (oj_slice1 Try.underlying47 Try.sizeOf29 Try.zeroValue29 (fe_t rfl) (by decide) rfl (fun b29 => ?_))
                                  refine tl_step rfl (oj_appendB (i := 7) (s := 1) (z := (.int .i64 0)) (bytes := 8) Try.underlying47 (by kernel_rfl) (fe_t rfl) (fe_t rfl) rfl (rdl_blk 0 rfl) rfl (by decide) (by first | exact oneI | exact oneF (fun _ => rfl) | exact fun u hu => List.all_eq_true.1 (show List.all _ (fun x => x.oneCell') = true from rfl) u hu | (intro u hu; revert u hu; simp [Value.oneCell'])) (by decide) ⟨by omega, by decide⟩ (fun Aa29 ca29 hca29 => ?_))
                                  refine tl_step rfl (oj_val (y_assign (fe_t rfl)) ?_)
                                  refine tl_nil ?_
                                  refine tx_in ?_
                                  refine tx_then ?_
                                  refine tr_region ?_
                                  refine tl_step rfl (oj_val (y_inc (fe_t rfl) fe_c (by omega)) ?_)
                                  refine tl_step rfl (oj_val (y_move (fe_t rfl)) ?_)
                                  refine tl_nil ?_
                                  apply tx_back5 (i + 1) (go s (os.getD i o0)) (_) ((⟨_, _, _, _⟩ : Vs)) ((⟨_, _, _, _⟩ : Vs))
                                  · exact (cov_cons (by first | rfl | exact v_int (by omega) | exact v_bool (by simp [*])) (cov_cons (by first | rfl | exact v_int (by omega) | exact v_bool (by simp [*])) (cov_cons (by first | rfl | exact v_int (by omega) | exact v_bool (by simp [*])) (cov_nil))))
                                  · repeat (first | exact over_nil | refine over_put rfl ?_ | refine over_drop rfl ?_)
                                  · exact fun w h => h.pick [6, 7, 2, 3] _ rfl (by decide)
                                  · exact ⟨⟨by omega, by rw [hs]; exact (run_next (by omega)).symm, by rw [go_f, p3]; exact hmr.del hnd _, by have := mdel_le m1 (amin s.f); omega, ⟨by dsimp only; omega, by rw [go_errs]; simp; omega⟩, by rw [go_errs, ← p2, ← cI_app, ← hex]; rfl, by rw [go_pops p2.symm hkd]; simp; omega, by rw [go_pops p2.symm hkd, p1, ← cI_app, ← hpx]; rfl, by dsimp only; omega⟩, by omega⟩
                              · try (exfalso; omega)
                                all_goals
                                  refine tr_seq ?_
                                  refine tr_region ?_
                                  refine tl_step rfl (oj_val (y_fieldAddr (td := 3) Try.underlying121 rfl rfl Try.sizeOf3 (o' := 0) rfl (fe_t rfl)) ?_)
                                  refine tl_step rfl (oj_val (y_ldb 1 Try.isAgg3 (fe_t rfl) rfl rfl) ?_)
                                  refine tl_step rfl (oj_val (y_eq (fe_t rfl) fe_c) ?_)
                                  refine tl_step rfl (oj_val (y_assign (fe_t rfl)) ?_)
                                  refine tl_nil ?_
                                  refine tx_then ?_
                                  refine tr_condp (fe_t rfl) (fun hq53 => ?_) (fun hq54 => ?_)
                                  · try (exfalso; omega)
                                    all_goals
                                      obtain ⟨p1, p2, p3⟩ := good_3 (f := s.f) (o := (os.getD i o0)) (by omega) (hmr.yes (by first | assumption | (have h9 := ‹(!(mget m1 (os.getD i o0).id).isSome) = false›; simpa using h9)))
                                      refine tr_pure (mp_nodup 5 rfl) (fun hnd => ?_)
                                      refine tr_region ?_
                                      refine tl_step rfl (oj_val (y_ldb 4 Try.isAgg128 (fe_t rfl) rfl rfl) ?_)
                                      refine tl_step rfl (oj_val (y_fieldAddr (td := 3) Try.underlying121 rfl rfl Try.sizeOf3 (o' := 1) rfl (fe_t rfl)) ?_)
                                      refine tl_step rfl (oj_val (y_ldb 1 Try.isAgg3 (fe_t rfl) rfl rfl) ?_)
                                      refine tl_step rfl (oj_mapDel 5 Try.underlying128 Try.underlying3 (fe_t rfl) (fe_t rfl) rfl (?_))
                                      refine tl_nil ?_
                                      refine tx_in ?_
                                      refine tx_then ?_
                                      refine tr_region ?_
                                      refine tl_step rfl (oj_val (y_move (fe_t rfl)) ?_)
                                      refine tl_step rfl (oj_val (y_move (fe_t rfl)) ?_)
                                      refine tl_step rfl (oj_slice1 Try.underlying47 Try.sizeOf29 Try.zeroValue29 (fe_t rfl) (by decide) rfl (fun b30 => ?_))
                                      refine tl_step rfl (oj_appendB (i := 4) (s := 1) (z := (.int .i64 0)) (bytes := 8) Try.underlying47 (by kernel_rfl) (fe_t rfl) (fe_t rfl) rfl (rdl_blk 0 rfl) rfl (by decide) (by first | exact oneI | exact oneF (fun _ => rfl) | exact fun u hu => List.all_eq_true.1 (show List.all _ (fun x => x.oneCell') = true from rfl) u hu | (intro u hu; revert u hu; simp [Value.oneCell'])) (by decide) ⟨by omega, by decide⟩ (fun Aa30 ca30 hca30 => ?_))
                                      refine tl_step rfl (oj_val (y_assign (fe_t rfl)) ?_)
                                      refine tl_nil ?_
                                      refine tx_in ?_
                                      refine tx_then ?_
                                      refine tr_region ?_
                                      refine tl_step rfl (oj_val (y_inc (fe_t rfl) fe_c (by omega)) ?_)
                                      refine tl_step rfl (oj_val (y_move (fe_t rfl)) ?_)
                                      refine tl_nil ?_
                                      apply tx_back5 (i + 1) (go s (os.getD i o0)) (_) ((⟨_, _, _, _⟩ : Vs)) ((⟨_, _, _, _⟩ : Vs))
                                      · exact (cov_cons (by first | rfl | exact v_int (by omega) | exact v_bool (by simp [*])) (cov_cons (by first | rfl | exact v_int (by omega) | exact v_bool (by simp [*])) (cov_cons (by first | rfl | exact v_int (by omega) | exact v_bool (by simp [*])) (cov_nil))))
                                      · repeat (first | exact over_nil | refine over_put rfl ?_ | refine over_drop rfl ?_)
                                      · exact fun w h => h.pick [3, 4, 5, 6] _ rfl (by decide)
                                      · exact ⟨⟨by omega, by rw [hs]; exact (run_next (by omega)).symm, by rw [go_f, p3]; exact hmr.del hnd _, by have := mdel_le m1 (os.getD i o0).id; omega, ⟨by dsimp only; omega, by rw [go_errs]; simp; omega⟩, by rw [go_errs, ← p2, ← cI_app, ← hex]; rfl, by rw [go_stay (fun h9 => by have h8 := h9.2; omega)]; exact hpn, by rw [go_stay (fun h9 => by have h8 := h9.2; omega)]; exact hpx, by dsimp only; omega⟩, by omega⟩
                                  · try (exfalso; omega)
                                    all_goals
                                      obtain ⟨p1, p2, p3⟩ : pop s.f (os.getD i o0) = 0 ∧ 0 = err s.f (os.getD i o0) ∧ nxt s.f (os.getD i o0) = upd s.f (os.getD i o0).id (some ((os.getD i o0).hi, (os.getD i o0).lo)) := by
                                        first
                                          | exact good_1 (by omega) (hmr.nope (by first | assumption | (have h9 := ‹(!(mget m1 (os.getD i o0).id).isSome) = true›; simpa using h9)))
                                          | exact good_4 (by omega) (hmr.yes (by first | assumption | (have h9 := ‹(!(mget m1 (os.getD i o0).id).isSome) = false›; simpa using h9)))
                                      refine tr_region ?_
                                      refine tl_step rfl (oj_val (y_ldb 4 Try.isAgg128 (fe_t rfl) rfl rfl) ?_)
                                      refine tl_step rfl (oj_val (y_fieldAddr (td := 3) Try.underlying121 rfl rfl Try.sizeOf3 (o' := 1) rfl (fe_t rfl)) ?_)
                                      refine tl_step rfl (oj_val (y_ldb 1 Try.isAgg3 (fe_t rfl) rfl rfl) ?_)
                                      refine tl_step rfl (oj_val (y_fieldAddr (td := 119) Try.underlying121 rfl rfl Try.sizeOf119 (o' := 2) rfl (fe_t rfl)) ?_)
                                      refine tl_step rfl (oj_val (y_ldbA 1 Try.isAgg119 Try.sizeOf119 (fe_t rfl) rfl rfl rfl) ?_)
                                      refine tl_step rfl (oj_mapPut 5 Try.underlying128 Try.underlying3 (fe_t rfl) (fe_t rfl) (fe_t rfl) rfl (.inl rfl) (?_))
                                      refine tl_nil ?_
                                      refine tx_in ?_
                                      refine tx_then ?_
                                      refine tr_region ?_
                                      refine tl_step rfl (oj_val (y_move (fe_t rfl)) ?_)
                                      refine tl_step rfl (oj_val (y_move (fe_t rfl)) ?_)
                                      refine tl_step rfl (oj_slice1 Try.underlying47 Try.sizeOf29 Try.zeroValue29 (fe_t rfl) (by decide) rfl (fun b31 => ?_))
                                      refine tl_step rfl (oj_appendB (i := 4) (s := 1) (z := (.int .i64 0)) (bytes := 8) Try.underlying47 (by kernel_rfl) (fe_t rfl) (fe_t rfl) rfl (rdl_blk 0 rfl) rfl (by decide) (by first | exact oneI | exact oneF (fun _ => rfl) | exact fun u hu => List.all_eq_true.1 (show List.all _ (fun x => x.oneCell') = true from rfl) u hu | (intro u hu; revert u hu; simp [Value.oneCell'])) (by decide) ⟨by omega, by decide⟩ (fun Aa31 ca31 hca31 => ?_))
                                      refine tl_step rfl (oj_val (y_assign (fe_t rfl)) ?_)
                                      refine tl_nil ?_
                                      refine tx_in ?_
                                      refine tx_then ?_
                                      refine tr_region ?_
                                      refine tl_step rfl (oj_val (y_inc (fe_t rfl) fe_c (by omega)) ?_)
                                      refine tl_step rfl (oj_val (y_move (fe_t rfl)) ?_)
                                      refine tl_nil ?_
                                      apply tx_back5 (i + 1) (go s (os.getD i o0)) (_) ((⟨_, _, _, _⟩ : Vs)) ((⟨_, _, _, _⟩ : Vs))
                                      · exact (cov_cons (by first | rfl | exact v_int (by omega) | exact v_bool (by simp [*])) (cov_cons (by first | rfl | exact v_int (by omega) | exact v_bool (by simp [*])) (cov_cons (by first | rfl | exact v_int (by omega) | exact v_bool (by simp [*])) (cov_nil))))
                                      · repeat (first | exact over_nil | refine over_put rfl ?_ | refine over_drop rfl ?_)
                                      · exact fun w h => h.pick [3, 4, 5, 6] _ rfl (by decide)
                                      · exact ⟨⟨by omega, by rw [hs]; exact (run_next (by omega)).symm, by rw [go_f, p3]; exact hmr.put (os.getD i o0).id ((os.getD i o0).hi, (os.getD i o0).lo), Nat.le_trans (mput_len _ _ _) (by omega), ⟨by dsimp only; omega, by rw [go_errs]; simp; omega⟩, by rw [go_errs, ← p2, ← cI_app, ← hex]; rfl, by rw [go_stay (fun h9 => by have h8 := h9.2; omega)]; exact hpn, by rw [go_stay (fun h9 => by have h8 := h9.2; omega)]; exact hpx, by dsimp only; omega⟩, by omega⟩
                      · try (exfalso; omega)
                        all_goals
                          refine tr_region ?_
                          refine tl_step rfl (oj_val (y_fieldAddr (td := 3) Try.underlying121 rfl rfl Try.sizeOf3 (o' := 0) rfl (fe_t rfl)) ?_)
                          refine tl_step rfl (oj_val (y_ldb 1 Try.isAgg3 (fe_t rfl) rfl rfl) ?_)
                          refine tl_step rfl (oj_val (y_gtr (fe_t rfl) fe_c) ?_)
                          refine tl_step rfl (oj_val (y_move (fe_t rfl)) ?_)
                          refine tl_splitp (d := 65) rfl (fun hq55 => ?_) (fun hq56 => ?_)
                          · try (exfalso; omega)
                            all_goals
                              refine tl_want rfl rfl rfl (oj_val (y_move (fe_t rfl)) ?_)
                              refine tl_want rfl rfl rfl (oj_val (y_not (fe_t rfl)) ?_)
                              refine tl_step rfl (oj_val (y_pickt (fe_t rfl) (fe_t rfl)) ?_)
                              refine tl_step rfl (oj_val (y_assign (fe_t rfl)) ?_)
                              refine tl_nil ?_
                              refine tx_then ?_
                              refine tr_cond (fe_t rfl) (fun hq57 => ?_) (fun hq58 => ?_)
                              · try (exfalso; omega)
                                all_goals
                                  obtain ⟨p1, p2, p3⟩ := bad (show err s.f (os.getD i o0) = 3 by first | exact err_2e (by omega) (hmr.emp.2 (by omega)) | exact err_3n (by omega) (hmr.nope (by first | assumption | (have h9 := ‹(!(mget m1 (os.getD i o0).id).isSome) = true›; simpa using h9)))) (by decide)
                                  refine tr_region ?_
                                  refine tl_step rfl (oj_val (y_assign fe_c) ?_)
                                  refine tl_nil ?_
                                  refine tx_in ?_
                                  refine tx_then ?_
                                  refine tr_region ?_
                                  refine tl_step rfl (oj_val (y_move (fe_t rfl)) ?_)
                                  refine tl_step rfl (oj_val (y_move (fe_t rfl)) ?_)
                                  refine tl_step rfl (oj_slice1 Try.underlying47 Try.sizeOf29 Try.zeroValue29 (fe_t rfl) (by decide) rfl (fun b32 => ?_))
                                  refine tl_step rfl (oj_appendB (i := 4) (s := 1) (z := (.int .i64 0)) (bytes := 8) Try.underlying47 (by kernel_rfl) (fe_t rfl) (fe_t rfl) rfl (rdl_blk 0 rfl) rfl (by decide) (by first | exact oneI | exact oneF (fun _ => rfl) | exact fun u hu => List.all_eq_true.1 (show List.all _ (fun x => x.oneCell') = true from rfl) u hu | (intro u hu; revert u hu; simp [Value.oneCell'])) (by decide) ⟨by omega, by decide⟩ (fun Aa32 ca32 hca32 => ?_))
                                  refine tl_step rfl (oj_val (y_assign (fe_t rfl)) ?_)
                                  refine tl_nil ?_
                                  refine tx_in ?_
                                  refine tx_then ?_
                                  refine tr_region ?_
                                  refine tl_step rfl (oj_val (y_inc (fe_t rfl) fe_c (by omega)) ?_)
                                  refine tl_step rfl (oj_val (y_move (fe_t rfl)) ?_)
                                  refine tl_nil ?_
                                  apply tx_back5 (i + 1) (go s (os.getD i o0)) (_) ((⟨_, _, _, _⟩ : Vs)) ((⟨_, _, _, _⟩ : Vs))
                                  · exact (cov_cons (by first | rfl | exact v_int (by omega) | exact v_bool (by simp [*])) (cov_cons (by first | rfl | exact v_int (by omega) | exact v_bool (by simp [*])) (cov_cons (by first | rfl | exact v_int (by omega) | exact v_bool (by simp [*])) (cov_nil))))
                                  · repeat (first | exact over_nil | refine over_put rfl ?_ | refine over_drop rfl ?_)
                                  · exact fun w h => h.pick [3, 4, 5, 6] _ rfl (by decide)
                                  · exact ⟨⟨by omega, by rw [hs]; exact (run_next (by omega)).symm, by rw [go_f, p3]; exact hmr, by omega, ⟨by dsimp only; omega, by rw [go_errs]; simp; omega⟩, by rw [go_errs, ← p2, ← cI_app, ← hex]; rfl, by rw [go_stay (fun h9 => by have h8 := h9.1; rw [← p2] at h8; exact absurd h8 (by decide))]; exact hpn, by rw [go_stay (fun h9 => by have h8 := h9.1; rw [← p2] at h8; exact absurd h8 (by decide))]; exact hpx, by dsimp only; omega⟩, by omega⟩
                              · try (exfalso; omega)
                                all_goals
                                  refine tr_seq ?_
                                  refine tr_region ?_
                                  refine tl_step rfl (oj_val (y_fieldAddr (td := 3) Try.underlying121 rfl rfl Try.sizeOf3 (o' := 0) rfl (fe_t rfl)) ?_)
                                  refine tl_step rfl (oj_val (y_ldb 1 Try.isAgg3 (fe_t rfl) rfl rfl) ?_)
                                  refine tl_step rfl (oj_val (y_eq (fe_t rfl) fe_c) ?_)
                                  refine tl_step rfl (oj_val (y_assign (fe_t rfl)) ?_)
                                  refine tl_nil ?_
                                  refine tx_then ?_
                                  refine tr_condp (fe_t rfl) (fun hq59 => ?_) (fun hq60 => ?_)
                                  · try (exfalso; omega)
                                    all_goals
                                      refine tr_seq ?_
                                      have hkd : (os.getD i o0).kind = 2 := by omega
                                      have hne : ¬ Emp s.f := fun h9 => by have h8 := hmr.emp.1 h9; omega
                                      obtain ⟨p1, p2, p3⟩ := good_2 hkd hne
                                      refine tr_region ?_
                                      refine tl_step rfl (oj_val (y_move (fe_t rfl)) ?_)
                                      refine tl_step rfl (oj_callF Try.call65 (fe_t rfl) fel_nil (fun w' hS => cminE (hS.pick [4, 5, 0, 1, 2, 3] [_, _, _, _, _, _] rfl (by decide)) hmr hne) (fun _ hmin => ?_))
                                      refine tl_step rfl (oj_val (y_assign (fe_t rfl)) ?_)
                                      refine tl_nil ?_
                                      refine tx_then ?_
                                      refine tr_seq ?_
                                      refine tr_region ?_
                                      refine tl_step rfl (oj_val (y_move (fe_t rfl)) ?_)
                                      refine tl_step rfl (oj_val (y_move (fe_t rfl)) ?_)
                                      refine tl_step rfl (oj_slice1 Try.underlying27 Try.sizeOf3 Try.zeroValue3 (fe_t rfl) (by decide) rfl (fun b33 => ?_))
                                      refine tl_step rfl (oj_appendB (i := 5) (s := 1) (z := (.int .i64 0)) (bytes := 8) Try.underlying27 (by kernel_rfl) (fe_t rfl) (fe_t rfl) rfl (rdl_blk 0 rfl) rfl (by decide) (by first | exact oneI | exact oneF (fun _ => rfl) | exact fun u hu => List.all_eq_true.1 (show List.all _ (fun x => x.oneCell') = true from rfl) u hu | (intro u hu; revert u hu; simp [Value.oneCell'])) (by decide) ⟨by omega, by decide⟩ (fun Aa33 ca33 hca33 => ?_))
                                      refine tl_step rfl (oj_val (y_assign (fe_t rfl)) ?_)
                                      refine tl_nil ?_
                                      refine tx_then ?_
                                      refine tr_pure (mp_nodup 2 rfl) (fun hnd => ?_)
                                      refine tr_region ?_
                                      refine tl_step rfl (oj_val (y_ldb 1 Try.isAgg128 (fe_t rfl) rfl rfl) ?_)
                                      refine tl_step rfl (oj_val (y_move (fe_t rfl)) ?_)
                                      refine tl_step rfl (oj_mapDel 2 Try.underlying128 Try.underlying3 (fe_t rfl) (fe_t rfl) rfl (?_))
                                      refine tl_nil ?_
                                      refine tx_in ?_
                                      refine tx_then ?_
                                      refine tr_region ?_
                                      refine tl_step rfl (oj_val (y_move (fe_t rfl)) ?_)
                                      refine tl_step rfl (oj_val (y_move (fe_t rfl)) ?_)
                                      refine tl_step rfl (oj_slice1 Try.underlying47 Try.sizeOf29 Try.zeroValue29 (fe_t rfl) (by decide) rfl (fun b34 => ?_))
                                      refine tl_step rfl (oj_appendB (i := 7) (s := 1) (z := (.int .i64 0)) (bytes := 8) Try.underlying47 (by kernel_rfl) (fe_t rfl) (fe_t rfl) rfl (rdl_blk 0 rfl) rfl (by decide) (by first | exact oneI | exact oneF (fun _ => rfl) | exact fun u hu => List.all_eq_true.1 (show List.all _ (fun x => x.oneCell') = true from rfl) u hu | (intro u hu; revert u hu; simp [Value.oneCell'])) (by decide) ⟨by omega, by decide⟩ (fun Aa34 ca34 hca34 => ?_))
                                      refine tl_step rfl (oj_val (y_assign (fe_t rfl)) ?_)
                                      refine tl_nil ?_
                                      refine tx_in ?_
                                      refine tx_then ?_
                                      refine tr_region ?_
                                      refine tl_step rfl (oj_val (y_inc (fe_t rfl) fe_c (by omega)) ?_)
                                      refine tl_step rfl (oj_val (y_move (fe_t rfl)) ?_)
                                      refine tl_nil ?_
                                      apply tx_back5 (i + 1) (go s (os.getD i o0)) (_) ((⟨_, _, _, _⟩ : Vs)) ((⟨_, _, _, _⟩ : Vs))
                                      · exact (cov_cons (by first | rfl | exact v_int (by omega) | exact v_bool (by simp [*])) (cov_cons (by first | rfl | exact v_int (by omega) | exact v_bool (by simp [*])) (cov_cons (by first | rfl | exact v_int (by omega) | exact v_bool (by simp [*])) (cov_nil))))
                                      · repeat (first | exact over_nil | refine over_put rfl ?_ | refine over_drop rfl ?_)
                                      · exact fun w h => h.pick [6, 7, 2, 3] _ rfl (by decide)
                                      · exact ⟨⟨by omega, by rw [hs]; exact (run_next (by omega)).symm, by rw [go_f, p3]; exact hmr.del hnd _, by have := mdel_le m1 (amin s.f); omega, ⟨by dsimp only; omega, by rw [go_errs]; simp; omega⟩, by rw [go_errs, ← p2, ← cI_app, ← hex]; rfl, by rw [go_pops p2.symm hkd]; simp; omega, by rw [go_pops p2.symm hkd, p1, ← cI_app, ← hpx]; rfl, by dsimp only; omega⟩, by omega⟩
                                  · try (exfalso; omega)
                                    all_goals
                                      refine tr_seq ?_
                                      refine tr_region ?_
                                      refine tl_step rfl (oj_val (y_fieldAddr (td := 3) Try.underlying121 rfl rfl Try.sizeOf3 (o' := 0) rfl (fe_t rfl)) ?_)
                                      refine tl_step rfl (oj_val (y_ldb 1 Try.isAgg3 (fe_t rfl) rfl rfl) ?_)
                                      refine tl_step rfl (oj_val (y_eq (fe_t rfl) fe_c) ?_)
                                      refine tl_step rfl (oj_val (y_assign (fe_t rfl)) ?_)
                                      refine tl_nil ?_
                                      refine tx_then ?_
                                      refine tr_condp (fe_t rfl) (fun hq61 => ?_) (fun hq62 => ?_)
                                      · try (exfalso; omega)
                                        all_goals
                                          obtain ⟨p1, p2, p3⟩ := good_3 (f := s.f) (o := (os.getD i o0)) (by omega) (hmr.yes (by first | assumption | (have h9 := ‹(!(mget m1 (os.getD i o0).id).isSome) = false›; simpa using h9)))
                                          refine tr_pure (mp_nodup 5 rfl) (fun hnd => ?_)
                                          refine tr_region ?_
                                          refine tl_step rfl (oj_val (y_ldb 4 Try.isAgg128 (fe_t rfl) rfl rfl) ?_)
                                          refine tl_step rfl (oj_val (y_fieldAddr (td := 3) Try.underlying121 rfl rfl Try.sizeOf3 (o' := 1) rfl (fe_t rfl)) ?_)
                                          refine tl_step rfl (oj_val (y_ldb 1 Try.isAgg3 (fe_t rfl) rfl rfl) ?_)
                                          refine tl_step rfl (oj_mapDel 5 Try.underlying128 Try.underlying3 (fe_t rfl) (fe_t rfl) rfl (?_))
                                          refine tl_nil ?_
                                          refine tx_in ?_
                                          refine tx_then ?_
                                          refine tr_region ?_
                                          refine tl_step rfl (oj_val (y_move (fe_t rfl)) ?_)
                                          refine tl_step rfl (oj_val (y_move (fe_t rfl)) ?_)
                                          refine tl_step rfl (oj_slice1 Try.underlying47 Try.sizeOf29 Try.zeroValue29 (fe_t rfl) (by decide) rfl (fun b35 => ?_))
                                          refine tl_step rfl (oj_appendB (i := 4) (s := 1) (z := (.int .i64 0)) (bytes := 8) Try.underlying47 (by kernel_rfl) (fe_t rfl) (fe_t rfl) rfl (rdl_blk 0 rfl) rfl (by decide) (by first | exact oneI | exact oneF (fun _ => rfl) | exact fun u hu => List.all_eq_true.1 (show List.all _ (fun x => x.oneCell') = true from rfl) u hu | (intro u hu; revert u hu; simp [Value.oneCell'])) (by decide) ⟨by omega, by decide⟩ (fun Aa35 ca35 hca35 => ?_))
                                          refine tl_step rfl (oj_val (y_assign (fe_t rfl)) ?_)
                                          refine tl_nil ?_
                                          refine tx_in ?_
                                          refine tx_then ?_
                                          refine tr_region ?_
                                          refine tl_step rfl (oj_val (y_inc (fe_t rfl) fe_c (by omega)) ?_)
                                          refine tl_step rfl (oj_val (y_move (fe_t rfl)) ?_)
                                          refine tl_nil ?_
                                          apply tx_back5 (i + 1) (go s (os.getD i o0)) (_) ((⟨_, _, _, _⟩ : Vs)) ((⟨_, _, _, _⟩ : Vs))
                                          · exact (cov_cons (by first | rfl | exact v_int (by omega) | exact v_bool (by simp [*])) (cov_cons (by first | rfl | exact v_int (by omega) | exact v_bool (by simp [*])) (cov_cons (by first | rfl | exact v_int (by omega) | exact v_bool (by simp [*])) (cov_nil))))
                                          · repeat (first | exact over_nil | refine over_put rfl ?_ | refine over_drop rfl ?_)
                                          · exact fun w h => h.pick [3, 4, 5, 6] _ rfl (by decide)
                                          · exact ⟨⟨by omega, by rw [hs]; exact (run_next (by omega)).symm, by rw [go_f, p3]; exact hmr.del hnd _, by have := mdel_le m1 (os.getD i o0).id; omega, ⟨by dsimp only; omega, by rw [go_errs]; simp; omega⟩, by rw [go_errs, ← p2, ← cI_app, ← hex]; rfl, by rw [go_stay (fun h9 => by have h8 := h9.2; omega)]; exact hpn, by rw [go_stay (fun h9 => by have h8 := h9.2; omega)]; exact hpx, by dsimp only; omega⟩, by omega⟩
                                      · try (exfalso; omega)
                                        all_goals
                                          obtain ⟨p1, p2, p3⟩ : pop s.f (os.getD i o0) = 0 ∧ 0 = err s.f (os.getD i o0) ∧ nxt s.f (os.getD i o0) = upd s.f (os.getD i o0).id (some ((os.getD i o0).hi, (os.getD i o0).lo)) := by
                                            first
                                              | exact good_1 (by omega) (hmr.nope (by first | assumption | (have h9 := ‹(!(mget m1 (os.getD i o0).id).isSome) = true›; simpa using h9)))
                                              | exact good_4 (by omega) (hmr.yes (by first | assumption | (have h9 := ‹(!(mget m1 (os.getD i o0).id).isSome) = false›; simpa using h9)))
                                          refine tr_region ?_
                                          refine tl_step rfl (oj_val (y_ldb 4 Try.isAgg128 (fe_t rfl) rfl rfl) ?_)
                                          refine tl_step rfl (oj_val (y_fieldAddr (td := 3) Try.underlying121 rfl rfl Try.sizeOf3 (o' := 1) rfl (fe_t rfl)) ?_)
                                          refine tl_step rfl (oj_val (y_ldb 1 Try.isAgg3 (fe_t rfl) rfl rfl) ?_)
                                          refine tl_step rfl (oj_val (y_fieldAddr (td := 119) Try.underlying121 rfl rfl Try.sizeOf119 (o' := 2) rfl (fe_t rfl)) ?_)
                                          refine tl_step rfl (oj_val (y_ldbA 1 Try.isAgg119 Try.sizeOf119 (fe_t rfl) rfl rfl rfl) ?_)
                                          refine tl_step rfl (oj_mapPut 5 Try.underlying128 Try.underlying3 (fe_t rfl) (fe_t rfl) (fe_t rfl) rfl (.inl rfl) (?_))
                                          refine tl_nil ?_
                                          refine tx_in ?_
                                          refine tx_then ?_
                                          refine tr_region ?_
                                          refine tl_step rfl (oj_val (y_move (fe_t rfl)) ?_)
                                          refine tl_step rfl (oj_val (y_move (fe_t rfl)) ?_)
                                          refine tl_step rfl (oj_slice1 Try.underlying47 Try.sizeOf29 Try.zeroValue29 (fe_t rfl) (by decide) rfl (fun b36 => ?_))
                                          refine tl_step rfl (oj_appendB (i := 4) (s := 1) (z := (.int .i64 0)) (bytes := 8) Try.underlying47 (by kernel_rfl) (fe_t rfl) (fe_t rfl) rfl (rdl_blk 0 rfl) rfl (by decide) (by first | exact oneI | exact oneF (fun _ => rfl) | exact fun u hu => List.all_eq_true.1 (show List.all _ (fun x => x.oneCell') = true from rfl) u hu | (intro u hu; revert u hu; simp [Value.oneCell'])) (by decide) ⟨by omega, by decide⟩ (fun Aa36 ca36 hca36 => ?_))
                                          refine tl_step rfl (oj_val (y_assign (fe_t rfl)) ?_)
                                          refine tl_nil ?_
                                          refine tx_in ?_
                                          refine tx_then ?_
                                          refine tr_region ?_
                                          refine tl_step rfl (oj_val (y_inc (fe_t rfl) fe_c (by omega)) ?_)
                                          refine tl_step rfl (oj_val (y_move (fe_t rfl)) ?_)
                                          refine tl_nil ?_
                                          apply tx_back5 (i + 1) (go s (os.getD i o0)) (_) ((⟨_, _, _, _⟩ : Vs)) ((⟨_, _, _, _⟩ : Vs))
                                          · exact (cov_cons (by first | rfl | exact v_int (by omega) | exact v_bool (by simp [*])) (cov_cons (by first | rfl | exact v_int (by omega) | exact v_bool (by simp [*])) (cov_cons (by first | rfl | exact v_int (by omega) | exact v_bool (by simp [*])) (cov_nil))))
                                          · repeat (first | exact over_nil | refine over_put rfl ?_ | refine over_drop rfl ?_)
                                          · exact fun w h => h.pick [3, 4, 5, 6] _ rfl (by decide)
                                          · exact ⟨⟨by omega, by rw [hs]; exact (run_next (by omega)).symm, by rw [go_f, p3]; exact hmr.put (os.getD i o0).id ((os.getD i o0).hi, (os.getD i o0).lo), Nat.le_trans (mput_len _ _ _) (by omega), ⟨by dsimp only; omega, by rw [go_errs]; simp; omega⟩, by rw [go_errs, ← p2, ← cI_app, ← hex]; rfl, by rw [go_stay (fun h9 => by have h8 := h9.2; omega)]; exact hpn, by rw [go_stay (fun h9 => by have h8 := h9.2; omega)]; exact hpx, by dsimp only; omega⟩, by omega⟩
                          · try (exfalso; omega)
                            all_goals
                              refine tl_skip rfl rfl rfl rfl ?_
                              refine tl_skip rfl rfl rfl rfl ?_
                              refine tl_step rfl (oj_val (y_pickf (fe_t rfl) fe_c) ?_)
                              refine tl_step rfl (oj_val (y_assign (fe_t rfl)) ?_)
                              refine tl_nil ?_
                              refine tx_then ?_
                              refine tr_condf (fe_t rfl) ?_
                              refine tr_seq ?_
                              refine tr_region ?_
                              refine tl_step rfl (oj_val (y_fieldAddr (td := 3) Try.underlying121 rfl rfl Try.sizeOf3 (o' := 0) rfl (fe_t rfl)) ?_)
                              refine tl_step rfl (oj_val (y_ldb 1 Try.isAgg3 (fe_t rfl) rfl rfl) ?_)
                              refine tl_step rfl (oj_val (y_eq (fe_t rfl) fe_c) ?_)
                              refine tl_step rfl (oj_val (y_assign (fe_t rfl)) ?_)
                              refine tl_nil ?_
                              refine tx_then ?_
                              refine tr_condp (fe_t rfl) (fun hq63 => ?_) (fun hq64 => ?_)
                              · try (exfalso; omega)
                                all_goals
                                  refine tr_seq ?_
                                  have hkd : (os.getD i o0).kind = 2 := by omega
                                  have hne : ¬ Emp s.f := fun h9 => by have h8 := hmr.emp.1 h9; omega
                                  obtain ⟨p1, p2, p3⟩ := good_2 hkd hne
                                  refine tr_region ?_
                                  refine tl_step rfl (oj_val (y_move (fe_t rfl)) ?_)
                                  refine tl_step rfl (oj_callF Try.call65 (fe_t rfl) fel_nil (fun w' hS => cminE (hS.pick [4, 5, 0, 1, 2, 3] [_, _, _, _, _, _] rfl (by decide)) hmr hne) (fun _ hmin => ?_))
                                  refine tl_step rfl (oj_val (y_assign (fe_t rfl)) ?_)
                                  refine tl_nil ?_
                                  refine tx_then ?_
                                  refine tr_seq ?_
                                  refine tr_region ?_
                                  refine tl_step rfl (oj_val (y_move (fe_t rfl)) ?_)
                                  refine tl_step rfl (oj_val (y_move (fe_t rfl)) ?_)
                                  refine tl_step rfl (oj_slice1 Try.underlying27 Try.sizeOf3 Try.zeroValue3 (fe_t rfl) (by decide) rfl (fun b37 => ?_))
                                  refine tl_step rfl (oj_appendB (i := 5) (s := 1) (z := (.int .i64 0)) (bytes := 8) Try.underlying27 (by kernel_rfl) (fe_t rfl) (fe_t rfl) rfl (rdl_blk 0 rfl) rfl (by decide) (by first | exact oneI | exact oneF (fun _ => rfl) | exact fun u hu => List.all_eq_true.1 (show List.all _ (fun x => x.oneCell') = true from rfl) u hu | (intro u hu; revert u hu; simp [Value.oneCell'])) (by decide) ⟨by omega, by decide⟩ (fun Aa37 ca37 hca37 => ?_))
                                  refine tl_step rfl (oj_val (y_assign (fe_t rfl)) ?_)
                                  refine tl_nil ?_
                                  refine tx_then ?_
                                  refine tr_pure (mp_nodup 2 rfl) (fun hnd => ?_)
                                  refine tr_region ?_
                                  refine tl_step rfl (oj_val (y_ldb 1 Try.isAgg128 (fe_t rfl) rfl rfl) ?_)
                                  refine tl_step rfl (oj_val (y_move (fe_t rfl)) ?_)
                                  refine tl_step rfl (oj_mapDel 2 Try.underlying128 Try.underlying3 (fe_t rfl) (fe_t rfl) rfl (?_))
                                  refine tl_nil ?_
                                  refine tx_in ?_
                                  refine tx_then ?_
                                  refine tr_region ?_
                                  refine tl_step rfl (oj_val (y_move (fe_t rfl)) ?_)
                                  refine tl_step rfl (oj_val (y_move (fe_t rfl)) ?_)
                                  refine tl_step rfl (oj_slice1 Try.underlying47 Try.sizeOf29 Try.zeroValue29 (fe_t rfl) (by decide) rfl (fun b38 => ?_))
                                  refine tl_step rfl (oj_appendB (i := 7) (s := 1) (z := (.int .i64 0)) (bytes := 8) Try.underlying47 (by kernel_rfl) (fe_t rfl) (fe_t rfl) rfl (rdl_blk 0 rfl) rfl (by decide) (by first | exact oneI | exact oneF (fun _ => rfl) | exact fun u hu => List.all_eq_true.1 (show List.all _ (fun x => x.oneCell') = true from rfl) u hu | (intro u hu; revert u hu; simp [Value.oneCell'])) (by decide) ⟨by omega, by decide⟩ (fun Aa38 ca38 hca38 => ?_))
                                  refine tl_step rfl (oj_val (y_assign (fe_t rfl)) ?_)
                                  refine tl_nil ?_
                                  refine tx_in ?_
                                  refine tx_then ?_
                                  refine tr_region ?_
                                  refine tl_step rfl (oj_val (y_inc (fe_t rfl) fe_c (by omega)) ?_)
                                  refine tl_step rfl (oj_val (y_move (fe_t rfl)) ?_)
                                  refine tl_nil ?_
                                  apply tx_back5 (i + 1) (go s (os.getD i o0)) (_) ((⟨_, _, _, _⟩ : Vs)) ((⟨_, _, _, _⟩ : Vs))
                                  · exact (cov_cons (by first | rfl | exact v_int (by omega) | exact v_bool (by simp [*])) (cov_cons (by first | rfl | exact v_int (by omega) | exact v_bool (by simp [*])) (cov_cons (by first | rfl | exact v_int (by omega) | exact v_bool (by simp [*])) (cov_nil))))
                                  · repeat (first | exact over_nil | refine over_put rfl ?_ | refine over_drop rfl ?_)
                                  · exact fun w h => h.pick [6, 7, 2, 3] _ rfl (by decide)
                                  · exact ⟨⟨by omega, by rw [hs]; exact (run_next (by omega)).symm, by rw [go_f, p3]; exact hmr.del hnd _, by have := mdel_le m1 (amin s.f); omega, ⟨by dsimp only; omega, by rw [go_errs]; simp; omega⟩, by rw [go_errs, ← p2, ← cI_app, ← hex]; rfl, by rw [go_pops p2.symm hkd]; simp; omega, by rw [go_pops p2.symm hkd, p1, ← cI_app, ← hpx]; rfl, by dsimp only; omega⟩, by omega⟩
                              · try (exfalso; omega)
                                all_goals
                                  refine tr_seq ?_
                                  refine tr_region ?_
                                  refine tl_step rfl (oj_val (y_fieldAddr (td := 3) Try.underlying121 rfl rfl Try.sizeOf3 (o' := 0) rfl (fe_t rfl)) ?_)
                                  refine tl_step rfl (oj_val (y_ldb 1 Try.isAgg3 (fe_t rfl) rfl rfl) ?_)
                                  refine tl_step rfl (oj_val (y_eq (fe_t rfl) fe_c) ?_)
                                  refine tl_step rfl (oj_val (y_assign (fe_t rfl)) ?_)
                                  refine tl_nil ?_
                                  refine tx_then ?_
                                  refine tr_condp (fe_t rfl) (fun hq65 => ?_) (fun hq66 => ?_)
                                  · try (exfalso; omega)
                                    all_goals
                                      obtain ⟨p1, p2, p3⟩ := good_3 (f := s.f) (o := (os.getD i o0)) (by omega) (hmr.yes (by first | assumption | (have h9 := ‹(!(mget m1 (os.getD i o0).id).isSome) = false›; simpa using h9)))
                                      refine tr_pure (mp_nodup 5 rfl) (fun hnd => ?_)
                                      refine tr_region ?_
                                      refine tl_step rfl (oj_val (y_ldb 4 Try.isAgg128 (fe_t rfl) rfl rfl) ?_)
                                      refine tl_step rfl (oj_val (y_fieldAddr (td := 3) Try.underlying121 rfl rfl Try.sizeOf3 (o' := 1) rfl (fe_t rfl)) ?_)
                                      refine tl_step rfl (oj_val (y_ldb 1 Try.isAgg3 (fe_t rfl) rfl rfl) ?_)
                                      refine tl_step rfl (oj_mapDel 5 Try.underlying128 Try.underlying3 (fe_t rfl) (fe_t rfl) rfl (?_))
                                      refine tl_nil ?_
                                      refine tx_in ?_
                                      refine tx_then ?_
                                      refine tr_region ?_
                                      refine tl_step rfl (oj_val (y_move (fe_t rfl)) ?_)
                                      refine tl_step rfl (oj_val (y_move (fe_t rfl)) ?_)
                                      refine tl_step rfl (oj_slice1 Try.underlying47 Try.sizeOf29 Try.zeroValue29 (fe_t rfl) (by decide) rfl (fun b39 => ?_))
                                      refine tl_step rfl (oj_appendB (i := 4) (s := 1) (z := (.int .i64 0)) (bytes := 8) Try.underlying47 (by kernel_rfl) (fe_t rfl) (fe_t rfl) rfl (rdl_blk 0 rfl) rfl (by decide) (by first | exact oneI | exact oneF (fun _ => rfl) | exact fun u hu => List.all_eq_true.1 (show List.all _ (fun x => x.oneCell') = true from rfl) u hu | (intro u hu; revert u hu; simp [Value.oneCell'])) (by decide) ⟨by omega, by decide⟩ (fun Aa39 ca39 hca39 => ?_))
                                      refine tl_step rfl (oj_val (y_assign (fe_t rfl)) ?_)
                                      refine tl_nil ?_
                                      refine tx_in ?_
                                      refine tx_then ?_
                                      refine tr_region ?_
                                      refine tl_step rfl (oj_val (y_inc (fe_t rfl) fe_c (by omega)) ?_)
                                      refine tl_step rfl (oj_val (y_move (fe_t rfl)) ?_)
                                      refine tl_nil ?_
                                      apply tx_back5 (i + 1) (go s (os.getD i o0)) (_) ((⟨_, _, _, _⟩ : Vs)) ((⟨_, _, _, _⟩ : Vs))
                                      · exact (cov_cons (by first | rfl | exact v_int (by omega) | exact v_bool (by simp [*])) (cov_cons (by first | rfl | exact v_int (by omega) | exact v_bool (by simp [*])) (cov_cons (by first | rfl | exact v_int (by omega) | exact v_bool (by simp [*])) (cov_nil))))
                                      · repeat (first | exact over_nil | refine over_put rfl ?_ | refine over_drop rfl ?_)
                                      · exact fun w h => h.pick [3, 4, 5, 6] _ rfl (by decide)
                                      · exact ⟨⟨by omega, by rw [hs]; exact (run_next (by omega)).symm, by rw [go_f, p3]; exact hmr.del hnd _, by have := mdel_le m1 (os.getD i o0).id; omega, ⟨by dsimp only; omega, by rw [go_errs]; simp; omega⟩, by rw [go_errs, ← p2, ← cI_app, ← hex]; rfl, by rw [go_stay (fun h9 => by have h8 := h9.2; omega)]; exact hpn, by rw [go_stay (fun h9 => by have h8 := h9.2; omega)]; exact hpx, by dsimp only; omega⟩, by omega⟩
                                  · try (exfalso; omega)
                                    all_goals
                                      obtain ⟨p1, p2, p3⟩ : pop s.f (os.getD i o0) = 0 ∧ 0 = err s.f (os.getD i o0) ∧ nxt s.f (os.getD i o0) = upd s.f (os.getD i o0).id (some ((os.getD i o0).hi, (os.getD i o0).lo)) := by
                                        first
                                          | exact good_1 (by omega) (hmr.nope (by first | assumption | (have h9 := ‹(!(mget m1 (os.getD i o0).id).isSome) = true›; simpa using h9)))
                                          | exact good_4 (by omega) (hmr.yes (by first | assumption | (have h9 := ‹(!(mget m1 (os.getD i o0).id).isSome) = false›; simpa using h9)))
                                      refine tr_region ?_
                                      refine tl_step rfl (oj_val (y_ldb 4 Try.isAgg128 (fe_t rfl) rfl rfl) ?_)
                                      refine tl_step rfl (oj_val (y_fieldAddr (td := 3) Try.underlying121 rfl rfl Try.sizeOf3 (o' := 1) rfl (fe_t rfl)) ?_)
                                      refine tl_step rfl (oj_val (y_ldb 1 Try.isAgg3 (fe_t rfl) rfl rfl) ?_)
                                      refine tl_step rfl (oj_val (y_fieldAddr (td := 119) Try.underlying121 rfl rfl Try.sizeOf119 (o' := 2) rfl (fe_t rfl)) ?_)
                                      refine tl_step rfl (oj_val (y_ldbA 1 Try.isAgg119 Try.sizeOf119 (fe_t rfl) rfl rfl rfl) ?_)
                                      refine tl_step rfl (oj_mapPut 5 Try.underlying128 Try.underlying3 (fe_t rfl) (fe_t rfl) (fe_t rfl) rfl (.inl rfl) (?_))
                                      refine tl_nil ?_
                                      refine tx_in ?_
                                      refine tx_then ?_
                                      refine tr_region ?_
                                      refine tl_step rfl (oj_val (y_move (fe_t rfl)) ?_)
                                      refine tl_step rfl (oj_val (y_move (fe_t rfl)) ?_)
                                      refine tl_step rfl (oj_slice1 Try.underlying47 Try.sizeOf29 Try.zeroValue29 (fe_t rfl) (by decide) rfl (fun b40 => ?_))
                                      refine tl_step rfl (oj_appendB (i := 4) (s := 1) (z := (.int .i64 0)) (bytes := 8) Try.underlying47 (by kernel_rfl) (fe_t rfl) (fe_t rfl) rfl (rdl_blk 0 rfl) rfl (by decide) (by first | exact oneI | exact oneF (fun _ => rfl) | exact fun u hu => List.all_eq_true.1 (show List.all _ (fun x => x.oneCell') = true from rfl) u hu | (intro u hu; revert u hu; simp [Value.oneCell'])) (by decide) ⟨by omega, by decide⟩ (fun Aa40 ca40 hca40 => ?_))
                                      refine tl_step rfl (oj_val (y_assign (fe_t rfl)) ?_)
                                      refine tl_nil ?_
                                      refine tx_in ?_
                                      refine tx_then ?_
                                      refine tr_region ?_
                                      refine tl_step rfl (oj_val (y_inc (fe_t rfl) fe_c (by omega)) ?_)
                                      refine tl_step rfl (oj_val (y_move (fe_t rfl)) ?_)
                                      refine tl_nil ?_
                                      apply tx_back5 (i + 1) (go s (os.getD i o0)) (_) ((⟨_, _, _, _⟩ : Vs)) ((⟨_, _, _, _⟩ : Vs))
                                      · exact (cov_cons (by first | rfl | exact v_int (by omega) | exact v_bool (by simp [*])) (cov_cons (by first | rfl | exact v_int (by omega) | exact v_bool (by simp [*])) (cov_cons (by first | rfl | exact v_int (by omega) | exact v_bool (by simp [*])) (cov_nil))))
                                      · repeat (first | exact over_nil | refine over_put rfl ?_ | refine over_drop rfl ?_)
                                      · exact fun w h => h.pick [3, 4, 5, 6] _ rfl (by decide)
                                      · exact ⟨⟨by omega, by rw [hs]; exact (run_next (by omega)).symm, by rw [go_f, p3]; exact hmr.put (os.getD i o0).id ((os.getD i o0).hi, (os.getD i o0).lo), Nat.le_trans (mput_len _ _ _) (by omega), ⟨by dsimp only; omega, by rw [go_errs]; simp; omega⟩, by rw [go_errs, ← p2, ← cI_app, ← hex]; rfl, by rw [go_stay (fun h9 => by have h8 := h9.2; omega)]; exact hpn, by rw [go_stay (fun h9 => by have h8 := h9.2; omega)]; exact hpx, by dsimp only; omega⟩, by omega⟩
                  · try (exfalso; omega)
                    all_goals
                      refine tl_skip rfl rfl rfl rfl ?_
                      refine tl_skip rfl rfl rfl rfl ?_
                      refine tl_skip rfl rfl rfl rfl ?_
                      refine tl_step rfl (oj_val (y_pickf (fe_t rfl) fe_c) ?_)
                      refine tl_step rfl (oj_val (y_assign (fe_t rfl)) ?_)
                      refine tl_nil ?_
                      refine tx_then ?_
                      refine tr_condf (fe_t rfl) ?_
                      refine tr_region ?_
                      refine tl_step rfl (oj_val (y_fieldAddr (td := 3) Try.underlying121 rfl rfl Try.sizeOf3 (o' := 0) rfl (fe_t rfl)) ?_)
                      refine tl_step rfl (oj_val (y_ldb 1 Try.isAgg3 (fe_t rfl) rfl rfl) ?_)
                      refine tl_step rfl (oj_val (y_gtr (fe_t rfl) fe_c) ?_)
                      refine tl_step rfl (oj_val (y_move (fe_t rfl)) ?_)
                      refine tl_splitp (d := 65) rfl (fun hq67 => ?_) (fun hq68 => ?_)
                      · try (exfalso; omega)
                        all_goals
                          refine tl_want rfl rfl rfl (oj_val (y_move (fe_t rfl)) ?_)
                          refine tl_want rfl rfl rfl (oj_val (y_not (fe_t rfl)) ?_)
                          refine tl_step rfl (oj_val (y_pickt (fe_t rfl) (fe_t rfl)) ?_)
                          refine tl_step rfl (oj_val (y_assign (fe_t rfl)) ?_)
                          refine tl_nil ?_
                          refine tx_then ?_
                          refine tr_cond (fe_t rfl) (fun hq69 => ?_) (fun hq70 => ?_)
                          · try (exfalso; omega)
                            all_goals
                              obtain ⟨p1, p2, p3⟩ := bad (show err s.f (os.getD i o0) = 3 by first | exact err_2e (by omega) (hmr.emp.2 (by omega)) | exact err_3n (by omega) (hmr.nope (by first | assumption | (have h9 := ‹(!(mget m1 (os.getD i o0).id).isSome) = true›; simpa using h9)))) (by decide)
                              refine tr_region ?_
                              refine tl_step rfl (oj_val (y_assign fe_c) ?_)
                              refine tl_nil ?_
                              refine tx_in ?_
                              refine tx_then ?_
                              refine tr_region ?_
                              refine tl_step rfl (oj_val (y_move (fe_t rfl)) ?_)
                              refine tl_step rfl (oj_val (y_move (fe_t rfl)) ?_)
                              refine tl_step rfl (oj_slice1 Try.underlying47 Try.sizeOf29 Try.zeroValue29 (fe_t rfl) (by decide) rfl (fun b41 => ?_))
                              refine tl_step rfl (oj_appendB (i := 4) (s := 1) (z := (.int .i64 0)) (bytes := 8) Try.underlying47 (by kernel_rfl) (fe_t rfl) (fe_t rfl) rfl (rdl_blk 0 rfl) rfl (by decide) (by first | exact oneI | exact oneF (fun _ => rfl) | exact fun u hu => List.all_eq_true.1 (show List.all _ (fun x => x.oneCell') = true from rfl) u hu | (intro u hu; revert u hu; simp [Value.oneCell'])) (by decide) ⟨by omega, by decide⟩ (fun Aa41 ca41 hca41 => ?_))
                              refine tl_step rfl (oj_val (y_assign (fe_t rfl)) ?_)
                              refine tl_nil ?_
                              refine tx_in ?_
                              refine tx_then ?_
                              refine tr_region ?_
                              refine tl_step rfl (oj_val (y_inc (fe_t rfl) fe_c (by omega)) ?_)
                              refine tl_step rfl (oj_val (y_move (fe_t rfl)) ?_)
                              refine tl_nil ?_
                              apply tx_back5 (i + 1) (go s (os.getD i o0)) (_) ((⟨_, _, _, _⟩ : Vs)) ((⟨_, _, _, _⟩ : Vs))
                              · exact (cov_cons (by first | rfl | exact v_int (by omega) | exact v_bool (by simp [*])) (cov_cons (by first | rfl | exact v_int (by omega) | exact v_bool (by simp [*])) (cov_cons (by first | rfl | exact v_int (by omega) | exact v_bool (by simp [*])) (cov_nil))))
                              · repeat (first | exact over_nil | refine over_put rfl ?_ | refine over_drop rfl ?_)
                              · exact fun w h => h.pick [3, 4, 5, 6] _ rfl (by decide)
                              · exact ⟨⟨by omega, by rw [hs]; exact (run_next (by omega)).symm, by rw [go_f, p3]; exact hmr, by omega, ⟨by dsimp only; omega, by rw [go_errs]; simp; omega⟩, by rw [go_errs, ← p2, ← cI_app, ← hex]; rfl, by rw [go_stay (fun h9 => by have h8 := h9.1; rw [← p2] at h8; exact absurd h8 (by decide))]; exact hpn, by rw [go_stay (fun h9 => by have h8 := h9.1; rw [← p2] at h8; exact absurd h8 (by decide))]; exact hpx, by dsimp only; omega⟩, by omega⟩
                          · try (exfalso; omega)
                            all_goals
                              refine tr_seq ?_
                              refine tr_region ?_
                              refine tl_step rfl (oj_val (y_fieldAddr (td := 3) Try.underlying121 rfl rfl Try.sizeOf3 (o' := 0) rfl (fe_t rfl)) ?_)
                              refine tl_step rfl (oj_val (y_ldb 1 Try.isAgg3 (fe_t rfl) rfl rfl) ?_)
                              refine tl_step rfl (oj_val (y_eq (fe_t rfl) fe_c) ?_)
                              refine tl_step rfl (oj_val (y_assign (fe_t rfl)) ?_)
                              refine tl_nil ?_
                              refine tx_then ?_
                              refine tr_condp (fe_t rfl) (fun hq71 => ?_) (fun hq72 => ?_)
                              · try (exfalso; omega)
                                all_goals
                                  refine tr_seq ?_
                                  have hkd : (os.getD i o0).kind = 2 := by omega
                                  have hne : ¬ Emp s.f := fun h9 => by have h8 := hmr.emp.1 h9; omega
                                  obtain ⟨p1, p2, p3⟩ := good_2 hkd hne
                                  refine tr_region ?_
                                  refine tl_step rfl (oj_val (y_move (fe_t rfl)) ?_)
                                  refine tl_step rfl (oj_callF Try.call65 (fe_t rfl) fel_nil (fun w' hS => cminE (hS.pick [4, 5, 0, 1, 2, 3] [_, _, _, _, _, _] rfl (by decide)) hmr hne) (fun _ hmin => ?_))
                                  refine tl_step rfl (oj_val (y_assign (fe_t rfl)) ?_)
                                  refine tl_nil ?_
                                  refine tx_then ?_
                                  refine tr_seq ?_
                                  refine tr_region ?_
                                  refine tl_step rfl (oj_val (y_move (fe_t rfl)) ?_)
                                  refine tl_step rfl (oj_val (y_move (fe_t rfl)) ?_)
                                  refine tl_step rfl (oj_slice1 Try.underlying27 Try.sizeOf3 Try.zeroValue3 (fe_t rfl) (by decide) rfl (fun b42 => ?_))
                                  refine tl_step rfl (oj_appendB (i := 5) (s := 1) (z := (.int .i64 0)) (bytes := 8) Try.underlying27 (by kernel_rfl) (fe_t rfl) (fe_t rfl) rfl (rdl_blk 0 rfl) rfl (by decide) (by first | exact oneI | exact oneF (fun _ => rfl) | exact fun u hu => List.all_eq_true.1 (show List.all _ (fun x => x.oneCell') = true from rfl) u hu | (intro u hu; revert u hu; simp [Value.oneCell'])) (by decide) ⟨by omega, by decide⟩ (fun Aa42 ca42 hca42 => ?_))
                                  refine tl_step rfl (oj_val (y_assign (fe_t rfl)) ?_)
                                  refine tl_nil ?_
                                  refine tx_then ?_
                                  refine tr_pure (mp_nodup 2 rfl) (fun hnd => ?_)
                                  refine tr_region ?_
                                  refine tl_step rfl (oj_val (y_ldb 1 Try.isAgg128 (fe_t rfl) rfl rfl) ?_)
                                  refine tl_step rfl (oj_val (y_move (fe_t rfl)) ?_)
                                  refine tl_step rfl (oj_mapDel 2 Try.underlying128 Try.underlying3 (fe_t rfl) (fe_t rfl) rfl (?_))
                                  refine tl_nil ?_
                                  refine tx_in ?_
                                  refine tx_then ?_
                                  refine tr_region ?_
                                  refine tl_step rfl (oj_val (y_move (fe_t rfl)) ?_)
                                  refine tl_step rfl (oj_val (y_move (fe_t rfl)) ?_)
                                  refine tl_step rfl (oj_slice1 Try.underlying47 Try.sizeOf29 Try.zeroValue29 (fe_t rfl) (by decide) rfl (fun b43 => ?_))
                                  refine tl_step rfl (oj_appendB (i := 7) (s := 1) (z := (.int .i64 0)) (bytes := 8) Try.underlying47 (by kernel_rfl) (fe_t rfl) (fe_t rfl) rfl (rdl_blk 0 rfl) rfl (by decide) (by first | exact oneI | exact oneF (fun _ => rfl) | exact fun u hu => List.all_eq_true.1 (show List.all _ (fun x => x.oneCell') = true from rfl) u hu | (intro u hu; revert u hu; simp [Value.oneCell'])) (by decide) ⟨by omega, by decide⟩ (fun Aa43 ca43 hca43 => ?_))
                                  refine tl_step rfl (oj_val (y_assign (fe_t rfl)) ?_)
                                  refine tl_nil ?_
                                  refine tx_in ?_
                                  refine tx_then ?_
                                  refine tr_region ?_
                                  refine tl_step rfl (oj_val (y_inc (fe_t rfl) fe_c (by omega)) ?_)
                                  refine tl_step rfl (oj_val (y_move (fe_t rfl)) ?_)
                                  refine tl_nil ?_
                                  apply tx_back5 (i + 1) (go s (os.getD i o0)) (_) ((⟨_, _, _, _⟩ : Vs)) ((⟨_, _, _, _⟩ : Vs))
                                  · exact (cov_cons (by first | rfl | exact v_int (by omega) | exact v_bool (by simp [*])) (cov_cons (by first | rfl | exact v_int (by omega) | exact v_bool (by simp [*])) (cov_cons (by first | rfl | exact v_int (by omega) | exact v_bool (by simp [*])) (cov_nil))))
                                  · repeat (first | exact over_nil | refine over_put rfl ?_ | refine over_drop rfl ?_)
                                  · exact fun w h => h.pick [6, 7, 2, 3] _ rfl (by decide)
                                  · exact ⟨⟨by omega, by rw [hs]; exact (run_next (by omega)).symm, by rw [go_f, p3]; exact hmr.del hnd _, by have := mdel_le m1 (amin s.f); omega, ⟨by dsimp only; omega, by rw [go_errs]; simp; omega⟩, by rw [go_errs, ← p2, ← cI_app, ← hex]; rfl, by rw [go_pops p2.symm hkd]; simp; omega, by rw [go_pops p2.symm hkd, p1, ← cI_app, ← hpx]; rfl, by dsimp only; omega⟩, by omega⟩
                              · try (exfalso; omega)
                                all_goals
                                  refine tr_seq ?_
                                  refine tr_region ?_
                                  refine tl_step rfl (oj_val (y_fieldAddr (td := 3) Try.underlying121 rfl rfl Try.sizeOf3 (o' := 0) rfl (fe_t rfl)) ?_)
                                  refine tl_step rfl (oj_val (y_ldb 1 Try.isAgg3 (fe_t rfl) rfl rfl) ?_)
                                  refine tl_step rfl (oj_val (y_eq (fe_t rfl) fe_c) ?_)
                                  refine tl_step rfl (oj_val (y_assign (fe_t rfl)) ?_)
                                  refine tl_nil ?_
                                  refine tx_then ?_
                                  refine tr_condp (fe_t rfl) (fun hq73 => ?_) (fun hq74 => ?_)
                                  · try (exfalso; omega)
                                    all_goals
                                      obtain ⟨p1, p2, p3⟩ := good_3 (f := s.f) (o := (os.getD i o0)) (by omega) (hmr.yes (by first | assumption | (have h9 := ‹(!(mget m1 (os.getD i o0).id).isSome) = false›; simpa using h9)))
                                      refine tr_pure (mp_nodup 5 rfl) (fun hnd => ?_)
                                      refine tr_region ?_
                                      refine tl_step rfl (oj_val (y_ldb 4 Try.isAgg128 (fe_t rfl) rfl rfl) ?_)
                                      refine tl_step rfl (oj_val (y_fieldAddr (td := 3) Try.underlying121 rfl rfl Try.sizeOf3 (o' := 1) rfl (fe_t rfl)) ?_)
                                      refine tl_step rfl (oj_val (y_ldb 1 Try.isAgg3 (fe_t rfl) rfl rfl) ?_)
                                      refine tl_step rfl (oj_mapDel 5 Try.underlying128 Try.underlying3 (fe_t rfl) (fe_t rfl) rfl (?_))
                                      refine tl_nil ?_
                                      refine tx_in ?_
                                      refine tx_then ?_
                                      refine tr_region ?_
                                      refine tl_step rfl (oj_val (y_move (fe_t rfl)) ?_)
                                      refine tl_step rfl (oj_val (y_move (fe_t rfl)) ?_)
                                      refine tl_step rfl (oj_slice1 Try.underlying47 Try.sizeOf29 Try.zeroValue29 (fe_t rfl) (by decide) rfl (fun b44 => ?_))
                                      refine tl_step rfl (oj_appendB (i := 4) (s := 1) (z := (.int .i64 0)) (bytes := 8) Try.underlying47 (by kernel_rfl) (fe_t rfl) (fe_t rfl) rfl (rdl_blk 0 rfl) rfl (by decide) (by first | exact oneI | exact oneF (fun _ => rfl) | exact fun u hu => List.all_eq_true.1 (show List.all _ (fun x => x.oneCell') = true from rfl) u hu | (intro u hu; revert u hu; simp [Value.oneCell'])) (by decide) ⟨by omega, by decide⟩ (fun Aa44 ca44 hca44 => ?_))
                                      refine tl_step rfl (oj_val (y_assign (fe_t rfl)) ?_)
                                      refine tl_nil ?_
                                      refine tx_in ?_
                                      refine tx_then ?_
                                      refine tr_region ?_
                                      refine tl_step rfl (oj_val (y_inc (fe_t rfl) fe_c (by omega)) ?_)
                                      refine tl_step rfl (oj_val (y_move (fe_t rfl)) ?_)
                                      refine tl_nil ?_
                                      apply tx_back5 (i + 1) (go s (os.getD i o0)) (_) ((⟨_, _, _, _⟩ : Vs)) ((⟨_, _, _, _⟩ : Vs))
                                      · exact (cov_cons (by first | rfl | exact v_int (by omega) | exact v_bool (by simp [*])) (cov_cons (by first | rfl | exact v_int (by omega) | exact v_bool (by simp [*])) (cov_cons (by first | rfl | exact v_int (by omega) | exact v_bool (by simp [*])) (cov_nil))))
                                      · repeat (first | exact over_nil | refine over_put rfl ?_ | refine over_drop rfl ?_)
                                      · exact fun w h => h.pick [3, 4, 5, 6] _ rfl (by decide)
                                      · exact ⟨⟨by omega, by rw [hs]; exact (run_next (by omega)).symm, by rw [go_f, p3]; exact hmr.del hnd _, by have := mdel_le m1 (os.getD i o0).id; omega, ⟨by dsimp only; omega, by rw [go_errs]; simp; omega⟩, by rw [go_errs, ← p2, ← cI_app, ← hex]; rfl, by rw [go_stay (fun h9 => by have h8 := h9.2; omega)]; exact hpn, by rw [go_stay (fun h9 => by have h8 := h9.2; omega)]; exact hpx, by dsimp only; omega⟩, by omega⟩
                                  · try (exfalso; omega)
                                    all_goals
                                      obtain ⟨p1, p2, p3⟩ : pop s.f (os.getD i o0) = 0 ∧ 0 = err s.f (os.getD i o0) ∧ nxt s.f (os.getD i o0) = upd s.f (os.getD i o0).id (some ((os.getD i o0).hi, (os.getD i o0).lo)) := by
                                        first
                                          | exact good_1 (by omega) (hmr.nope (by first | assumption | (have h9 := ‹(!(mget m1 (os.getD i o0).id).isSome) = true›; simpa using h9)))
                                          | exact good_4 (by omega) (hmr.yes (by first | assumption | (have h9 := ‹(!(mget m1 (os.getD i o0).id).isSome) = false›; simpa using h9)))
                                      refine tr_region ?_
                                      refine tl_step rfl (oj_val (y_ldb 4 Try.isAgg128 (fe_t rfl) rfl rfl) ?_)
                                      refine tl_step rfl (oj_val (y_fieldAddr (td := 3) Try.underlying121 rfl rfl Try.sizeOf3 (o' := 1) rfl (fe_t rfl)) ?_)
                                      refine tl_step rfl (oj_val (y_ldb 1 Try.isAgg3 (fe_t rfl) rfl rfl) ?_)
                                      refine tl_step rfl (oj_val (y_fieldAddr (td := 119) Try.underlying121 rfl rfl Try.sizeOf119 (o' := 2) rfl (fe_t rfl)) ?_)
                                      refine tl_step rfl (oj_val (y_ldbA 1 Try.isAgg119 Try.sizeOf119 (fe_t rfl) rfl rfl rfl) ?_)
                                      refine tl_step rfl (oj_mapPut 5 Try.underlying128 Try.underlying3 (fe_t rfl) (fe_t rfl) (fe_t rfl) rfl (.inl rfl) (?_))
                                      refine tl_nil ?_
                                      refine tx_in ?_
                                      refine tx_then ?_
                                      refine tr_region ?_
                                      refine tl_step rfl (oj_val (y_move (fe_t rfl)) ?_)
                                      refine tl_step rfl (oj_val (y_move (fe_t rfl)) ?_)
                                      refine tl_step rfl (oj_slice1 Try.underlying47 Try.sizeOf29 Try.zeroValue29 (fe_t rfl) (by decide) rfl (fun b45 => ?_))
                                      refine tl_step rfl (oj_appendB (i := 4) (s := 1) (z := (.int .i64 0)) (bytes := 8) Try.underlying47 (by kernel_rfl) (fe_t rfl) (fe_t rfl) rfl (rdl_blk 0 rfl) rfl (by decide) (by first | exact oneI | exact oneF (fun _ => rfl) | exact fun u hu => List.all_eq_true.1 (show List.all _ (fun x => x.oneCell') = true from rfl) u hu | (intro u hu; revert u hu; simp [Value.oneCell'])) (by decide) ⟨by omega, by decide⟩ (fun Aa45 ca45 hca45 => ?_))
                                      refine tl_step rfl (oj_val (y_assign (fe_t rfl)) ?_)
                                      refine tl_nil ?_
                                      refine tx_in ?_
                                      refine tx_then ?_
                                      refine tr_region ?_
                                      refine tl_step rfl (oj_val (y_inc (fe_t rfl) fe_c (by omega)) ?_)
                                      refine tl_step rfl (oj_val (y_move (fe_t rfl)) ?_)
                                      refine tl_nil ?_
                                      apply tx_back5 (i + 1) (go s (os.getD i o0)) (_) ((⟨_, _, _, _⟩ : Vs)) ((⟨_, _, _, _⟩ : Vs))
                                      · exact (cov_cons (by first | rfl | exact v_int (by omega) | exact v_bool (by simp [*])) (cov_cons (by first | rfl | exact v_int (by omega) | exact v_bool (by simp [*])) (cov_cons (by first | rfl | exact v_int (by omega) | exact v_bool (by simp [*])) (cov_nil))))
                                      · repeat (first | exact over_nil | refine over_put rfl ?_ | refine over_drop rfl ?_)
                                      · exact fun w h => h.pick [3, 4, 5, 6] _ rfl (by decide)
                                      · exact ⟨⟨by omega, by rw [hs]; exact (run_next (by omega)).symm, by rw [go_f, p3]; exact hmr.put (os.getD i o0).id ((os.getD i o0).hi, (os.getD i o0).lo), Nat.le_trans (mput_len _ _ _) (by omega), ⟨by dsimp only; omega, by rw [go_errs]; simp; omega⟩, by rw [go_errs, ← p2, ← cI_app, ← hex]; rfl, by rw [go_stay (fun h9 => by have h8 := h9.2; omega)]; exact hpn, by rw [go_stay (fun h9 => by have h8 := h9.2; omega)]; exact hpx, by dsimp only; omega⟩, by omega⟩
                      · try (exfalso; omega)
                        all_goals
                          refine tl_skip rfl rfl rfl rfl ?_
                          refine tl_skip rfl rfl rfl rfl ?_
                          refine tl_step rfl (oj_val (y_pickf (fe_t rfl) fe_c) ?_)
                          refine tl_step rfl (oj_val (y_assign (fe_t rfl)) ?_)
                          refine tl_nil ?_
                          refine tx_then ?_
                          refine tr_condf (fe_t rfl) ?_
                          refine tr_seq ?_
                          refine tr_region ?_
                          refine tl_step rfl (oj_val (y_fieldAddr (td := 3) Try.underlying121 rfl rfl Try.sizeOf3 (o' := 0) rfl (fe_t rfl)) ?_)
                          refine tl_step rfl (oj_val (y_ldb 1 Try.isAgg3 (fe_t rfl) rfl rfl) ?_)
                          refine tl_step rfl (oj_val (y_eq (fe_t rfl) fe_c) ?_)
                          refine tl_step rfl (oj_val (y_assign (fe_t rfl)) ?_)
                          refine tl_nil ?_
                          refine tx_then ?_
                          refine tr_condp (fe_t rfl) (fun hq75 => ?_) (fun hq76 => ?_)
                          · try (exfalso; omega)
                            all_goals
                              refine tr_seq ?_
                              have hkd : (os.getD i o0).kind = 2 := by omega
                              have hne : ¬ Emp s.f := fun h9 => by have h8 := hmr.emp.1 h9; omega
                              obtain ⟨p1, p2, p3⟩ := good_2 hkd hne
                              refine tr_region ?_
                              refine tl_step rfl (oj_val (y_move (fe_t rfl)) ?_)
                              refine tl_step rfl (oj_callF Try.call65 (fe_t rfl) fel_nil (fun w' hS => cminE (hS.pick [4, 5, 0, 1, 2, 3] [_, _, _, _, _, _] rfl (by decide)) hmr hne) (fun _ hmin => ?_))
                              refine tl_step rfl (oj_val (y_assign (fe_t rfl)) ?_)
                              refine tl_nil ?_
                              refine tx_then ?_
                              refine tr_seq ?_
                              refine tr_region ?_
                              refine tl_step rfl (oj_val (y_move (fe_t rfl)) ?_)
                              refine tl_step rfl (oj_val (y_move (fe_t rfl)) ?_)
                              refine tl_step rfl (oj_slice1 Try.underlying27 Try.sizeOf3 Try.zeroValue3 (fe_t rfl) (by decide) rfl (fun b46 => ?_))
                              refine tl_step rfl (oj_appendB (i := 5) (s := 1) (z := (.int .i64 0)) (bytes := 8) Try.underlying27 (by kernel_rfl) (fe_t rfl) (fe_t rfl) rfl (rdl_blk 0 rfl) rfl (by decide) (by first | exact oneI | exact oneF (fun _ => rfl) | exact fun u hu => List.all_eq_true.1 (show List.all _ (fun x => x.oneCell') = true from rfl) u hu | (intro u hu; revert u hu; simp [Value.oneCell'])) (by decide) ⟨by omega, by decide⟩ (fun Aa46 ca46 hca46 => ?_))
                              refine tl_step rfl (oj_val (y_assign (fe_t rfl)) ?_)
                              refine tl_nil ?_
                              refine tx_then ?_
                              refine tr_pure (mp_nodup 2 rfl) (fun hnd => ?_)
                              refine tr_region ?_
                              refine tl_step rfl (oj_val (y_ldb 1 Try.isAgg128 (fe_t rfl) rfl rfl) ?_)
                              refine tl_step rfl (oj_val (y_move (fe_t rfl)) ?_)
                              refine tl_step rfl (oj_mapDel 2 Try.underlying128 Try.underlying3 (fe_t rfl) (fe_t rfl) rfl (?_))
                              refine tl_nil ?_
                              refine tx_in ?_
                              refine tx_then ?_
                              refine tr_region ?_
                              refine tl_step rfl (oj_val (y_move (fe_t rfl)) ?_)
                              refine tl_step rfl (oj_val (y_move (fe_t rfl)) ?_)
                              refine tl_step rfl (oj_slice1 Try.underlying47 Try.sizeOf29 Try.zeroValue29 (fe_t rfl) (by decide) rfl (fun b47 => ?_))
                              refine tl_step rfl (oj_appendB (i := 7) (s := 1) (z := (.int .i64 0)) (bytes := 8) Try.underlying47 (by kernel_rfl) (fe_t rfl) (fe_t rfl) rfl (rdl_blk 0 rfl) rfl (by decide) (by first | exact oneI | exact oneF (fun _ => rfl) | exact fun u hu => List.all_eq_true.1 (show List.all _ (fun x => x.oneCell') = true from rfl) u hu | (intro u hu; revert u hu; simp [Value.oneCell'])) (by decide) ⟨by omega, by decide⟩ (fun Aa47 ca47 hca47 => ?_))
                              refine tl_step rfl (oj_val (y_assign (fe_t rfl)) ?_)
                              refine tl_nil ?_
                              refine tx_in ?_
                              refine tx_then ?_
                              refine tr_region ?_
                              refine tl_step rfl (oj_val (y_inc (fe_t rfl) fe_c (by omega)) ?_)
                              refine tl_step rfl (oj_val (y_move (fe_t rfl)) ?_)
                              refine tl_nil ?_
                              apply tx_back5 (i + 1) (go s (os.getD i o0)) (_) ((⟨_, _, _, _⟩ : Vs)) ((⟨_, _, _, _⟩ : Vs))
                              · exact (cov_cons (by first | rfl | exact v_int (by omega) | exact v_bool (by simp [*])) (cov_cons (by first | rfl | exact v_int (by omega) | exact v_bool (by simp [*])) (cov_cons (by first | rfl | exact v_int (by omega) | exact v_bool (by simp [*])) (cov_nil))))
                              · repeat (first | exact over_nil | refine over_put rfl ?_ | refine over_drop rfl ?_)
                              · exact fun w h => h.pick [6, 7, 2, 3] _ rfl (by decide)
                              · exact ⟨⟨by omega, by rw [hs]; exact (run_next (by omega)).symm, by rw [go_f, p3]; exact hmr.del hnd _, by have := mdel_le m1 (amin s.f); omega, ⟨by dsimp only; omega, by rw [go_errs]; simp; omega⟩, by rw [go_errs, ← p2, ← cI_app, ← hex]; rfl, by rw [go_pops p2.symm hkd]; simp; omega, by rw [go_pops p2.symm hkd, p1, ← cI_app, ← hpx]; rfl, by dsimp only; omega⟩, by omega⟩
                          · try (exfalso; omega)
                            all_goals
                              refine tr_seq ?_
                              refine tr_region ?_
                              refine tl_step rfl (oj_val (y_fieldAddr (td := 3) Try.underlying121 rfl rfl Try.sizeOf3 (o' := 0) rfl (fe_t rfl)) ?_)
                              refine tl_step rfl (oj_val (y_ldb 1 Try.isAgg3 (fe_t rfl) rfl rfl) ?_)
                              refine tl_step rfl (oj_val (y_eq (fe_t rfl) fe_c) ?_)
                              refine tl_step rfl (oj_val (y_assign (fe_t rfl)) ?_)
                              refine tl_nil ?_
                              refine tx_then ?_
                              refine tr_condp (fe_t rfl) (fun hq77 => ?_) (fun hq78 => ?_)
                              · try (exfalso; omega)
                                all_goals
                                  obtain ⟨p1, p2, p3⟩ := good_3 (f := s.f) (o := (os.getD i o0)) (by omega) (hmr.yes (by first | assumption | (have h9 := ‹(!(mget m1 (os.getD i o0).id).isSome) = false›; simpa using h9)))
                                  refine tr_pure (mp_nodup 5 rfl) (fun hnd => ?_)
                                  refine tr_region ?_
                                  refine tl_step rfl (oj_val (y_ldb 4 Try.isAgg128 (fe_t rfl) rfl rfl) ?_)
                                  refine tl_step rfl (oj_val (y_fieldAddr (td := 3) Try.underlying121 rfl rfl Try.sizeOf3 (o' := 1) rfl (fe_t rfl)) ?_)
                                  refine tl_step rfl (oj_val (y_ldb 1 Try.isAgg3 (fe_t rfl) rfl rfl) ?_)
                                  refine tl_step rfl (oj_mapDel 5 Try.underlying128 Try.underlying3 (fe_t rfl) (fe_t rfl) rfl (?_))
                                  refine tl_nil ?_
                                  refine tx_in ?_
                                  refine tx_then ?_
                                  refine tr_region ?_
                                  refine tl_step rfl (oj_val (y_move (fe_t rfl)) ?_)
                                  refine tl_step rfl (oj_val (y_move (fe_t rfl)) ?_)
                                  refine tl_step rfl (oj_slice1 Try.underlying47 Try.sizeOf29 Try.zeroValue29 (fe_t rfl) (by decide) rfl (fun b48 => ?_))
                                  refine tl_step rfl (oj_appendB (i := 4) (s := 1) (z := (.int .i64 0)) (bytes := 8) Try.underlying47 (by kernel_rfl) (fe_t rfl) (fe_t rfl) rfl (rdl_blk 0 rfl) rfl (by decide) (by first | exact oneI | exact oneF (fun _ => rfl) | exact fun u hu => List.all_eq_true.1 (show List.all _ (fun x => x.oneCell') = true from rfl) u hu | (intro u hu; revert u hu; simp [Value.oneCell'])) (by decide) ⟨by omega, by decide⟩ (fun Aa48 ca48 hca48 => ?_))
                                  refine tl_step rfl (oj_val (y_assign (fe_t rfl)) ?_)
                                  refine tl_nil ?_
                                  refine tx_in ?_
                                  refine tx_then ?_
                                  refine tr_region ?_
                                  refine tl_step rfl (oj_val (y_inc (fe_t rfl) fe_c (by omega)) ?_)
                                  refine tl_step rfl (oj_val (y_move (fe_t rfl)) ?_)
                                  refine tl_nil ?_
                                  apply tx_back5 (i + 1) (go s (os.getD i o0)) (_) ((⟨_, _, _, _⟩ : Vs)) ((⟨_, _, _, _⟩ : Vs))
                                  · exact (cov_cons (by first | rfl | exact v_int (by omega) | exact v_bool (by simp [*])) (cov_cons (by first | rfl | exact v_int (by omega) | exact v_bool (by simp [*])) (cov_cons (by first | rfl | exact v_int (by omega) | exact v_bool (by simp [*])) (cov_nil))))
                                  · repeat (first | exact over_nil | refine over_put rfl ?_ | refine over_drop rfl ?_)
                                  · exact fun w h => h.pick [3, 4, 5, 6] _ rfl (by decide)
                                  · exact ⟨⟨by omega, by rw [hs]; exact (run_next (by omega)).symm, by rw [go_f, p3]; exact hmr.del hnd _, by have := mdel_le m1 (os.getD i o0).id; omega, ⟨by dsimp only; omega, by rw [go_errs]; simp; omega⟩, by rw [go_errs, ← p2, ← cI_app, ← hex]; rfl, by rw [go_stay (fun h9 => by have h8 := h9.2; omega)]; exact hpn, by rw [go_stay (fun h9 => by have h8 := h9.2; omega)]; exact hpx, by dsimp only; omega⟩, by omega⟩
                              · try (exfalso; omega)
                                all_goals
                                  obtain ⟨p1, p2, p3⟩ : pop s.f (os.getD i o0) = 0 ∧ 0 = err s.f (os.getD i o0) ∧ nxt s.f (os.getD i o0) = upd s.f (os.getD i o0).id (some ((os.getD i o0).hi, (os.getD i o0).lo)) := by
                                    first
                                      | exact good_1 (by omega) (hmr.nope (by first | assumption | (have h9 := ‹(!(mget m1 (os.getD i o0).id).isSome) = true›; simpa using h9)))
                                      | exact good_4 (by omega) (hmr.yes (by first | assumption | (have h9 := ‹(!(mget m1 (os.getD i o0).id).isSome) = false›; simpa using h9)))
                                  refine tr_region ?_
                                  refine tl_step rfl (oj_val (y_ldb 4 Try.isAgg128 (fe_t rfl) rfl rfl) ?_)
                                  refine tl_step rfl (oj_val (y_fieldAddr (td := 3) Try.underlying121 rfl rfl Try.sizeOf3 (o' := 1) rfl (fe_t rfl)) ?_)
                                  refine tl_step rfl (oj_val (y_ldb 1 Try.isAgg3 (fe_t rfl) rfl rfl) ?_)
                                  refine tl_step rfl (oj_val (y_fieldAddr (td := 119) Try.underlying121 rfl rfl Try.sizeOf119 (o' := 2) rfl (fe_t rfl)) ?_)
                                  refine tl_step rfl (oj_val (y_ldbA 1 Try.isAgg119 Try.sizeOf119 (fe_t rfl) rfl rfl rfl) ?_)
                                  refine tl_step rfl (oj_mapPut 5 Try.underlying128 Try.underlying3 (fe_t rfl) (fe_t rfl) (fe_t rfl) rfl (.inl rfl) (?_))
                                  refine tl_nil ?_
                                  refine tx_in ?_
                                  refine tx_then ?_
                                  refine tr_region ?_
                                  refine tl_step rfl (oj_val (y_move (fe_t rfl)) ?_)
                                  refine tl_step rfl (oj_val (y_move (fe_t rfl)) ?_)
                                  refine tl_step rfl (oj_slice1 Try.underlying47 Try.sizeOf29 Try.zeroValue29 (fe_t rfl) (by decide) rfl (fun b49 => ?_))
                                  refine tl_step rfl (oj_appendB (i := 4) (s := 1) (z := (.int .i64 0)) (bytes := 8) Try.underlying47 (by kernel_rfl) (fe_t rfl) (fe_t rfl) rfl (rdl_blk 0 rfl) rfl (by decide) (by first | exact oneI | exact oneF (fun _ => rfl) | exact fun u hu => List.all_eq_true.1 (show List.all _ (fun x => x.oneCell') = true from rfl) u hu | (intro u hu; revert u hu; simp [Value.oneCell'])) (by decide) ⟨by omega, by decide⟩ (fun Aa49 ca49 hca49 => ?_))
                                  refine tl_step rfl (oj_val (y_assign (fe_t rfl)) ?_)
                                  refine tl_nil ?_
                                  refine tx_in ?_
                                  refine tx_then ?_
                                  refine tr_region ?_
                                  refine tl_step rfl (oj_val (y_inc (fe_t rfl) fe_c (by omega)) ?_)
                                  refine tl_step rfl (oj_val (y_move (fe_t rfl)) ?_)
                                  refine tl_nil ?_
                                  apply tx_back5 (i + 1) (go s (os.getD i o0)) (_) ((⟨_, _, _, _⟩ : Vs)) ((⟨_, _, _, _⟩ : Vs))
                                  · exact (cov_cons (by first | rfl | exact v_int (by omega) | exact v_bool (by simp [*])) (cov_cons (by first | rfl | exact v_int (by omega) | exact v_bool (by simp [*])) (cov_cons (by first | rfl | exact v_int (by omega) | exact v_bool (by simp [*])) (cov_nil))))
                                  · repeat (first | exact over_nil | refine over_put rfl ?_ | refine over_drop rfl ?_)
                                  · exact fun w h => h.pick [3, 4, 5, 6] _ rfl (by decide)
                                  · exact ⟨⟨by omega, by rw [hs]; exact (run_next (by omega)).symm, by rw [go_f, p3]; exact hmr.put (os.getD i o0).id ((os.getD i o0).hi, (os.getD i o0).lo), Nat.le_trans (mput_len _ _ _) (by omega), ⟨by dsimp only; omega, by rw [go_errs]; simp; omega⟩, by rw [go_errs, ← p2, ← cI_app, ← hex]; rfl, by rw [go_stay (fun h9 => by have h8 := h9.2; omega)]; exact hpn, by rw [go_stay (fun h9 => by have h8 := h9.2; omega)]; exact hpx, by dsimp only; omega⟩, by omega⟩
  · try (exfalso; omega)
    all_goals
      refine tr_exit ?_
      refine tx_then_exit ?_
      refine tx_then_exit ?_
      refine tx_in_exit ?_
      refine tx_then ?_
      refine tr_seq ?_
      refine tr_block ?_
      refine tr_add (r := vec 3 1 (.slice none 0 0) 0 []) vec_nil rfl ?_
      refine tr_loop4 [9, 16, 93, 94, 95, 96, 97, 98, 99, 100, 101, 102, 103] (fun (f1 : Tb) (m2 : Mp) (L : List Int) (d1 : Vs) => [(9, .slice d1.A d1.n d1.c)]) 0 (fun (f1 : Tb) (m2 : Mp) (L : List Int) (d1 : Vs) => [(4, mpR b_mp m2 []), (0, vec 3 1 (.slice d1.A d1.n d1.c) d1.n d1.xs)]) (fun (f1 : Tb) (m2 : Mp) (L : List Int) (d1 : Vs) => Mr m2 f1 ∧ Half s.f f1 L ∧ L.length + m2.length ≤ n ∧ d1.n = L.length ∧ d1.xs = cI L) (fun (f1 : Tb) (m2 : Mp) (L : List Int) (d1 : Vs) => m2.length) (s.f) (m1) ([]) (⟨none, 0, 0, []⟩ : Vs) (cov_cons (by first | rfl | exact v_int (by omega) | exact v_bool (by simp [*])) (cov_nil)) (fun w h => h) ?_ ?_
      · try dsimp only
        exact ⟨hmr, Half.nil _, by simp; omega, rfl, rfl⟩
      intro f1 m2 L d1 hp
      obtain ⟨hm2, hhf, hdl, hdn, hdx⟩ := hp
      refine tr_seq ?_
      refine tr_seq ?_
      refine tr_region ?_
      refine tl_step rfl (oj_val (y_ldb 3 Try.isAgg128 (fe_t rfl) rfl rfl) ?_)
      refine tl_step rfl (oj_val (y_mlen 4 Try.underlying128 (fe_t rfl) rfl) ?_)
      refine tl_step rfl (oj_val (y_gtr (fe_t rfl) fe_c) ?_)
      refine tl_nil ?_
      refine tx_then ?_
      refine tr_condp (fe_t rfl) (fun hq79 => ?_) (fun hq80 => ?_)
      · try (exfalso; omega)
        all_goals
          have hne2 : ¬ Emp f1 := fun h9 => by have h8 := hm2.emp.1 h9; omega
          refine tr_skip ?_
          refine tx_then ?_
          refine tr_block ?_
          refine tr_seq ?_
          refine tr_region ?_
          refine tl_step rfl (oj_val (y_move (fe_t rfl)) ?_)
          refine tl_step rfl (oj_callF Try.call65 (fe_t rfl) fel_nil (fun w' hS => cminE (hS.pick [3, 4, 0, 1, 2] [_, _, _, _, _] rfl (by decide)) hm2 hne2) (fun _ hmin2 => ?_))
          refine tl_step rfl (oj_val (y_assign (fe_t rfl)) ?_)
          refine tl_nil ?_
          refine tx_then ?_
          refine tr_seq ?_
          refine tr_region ?_
          refine tl_step rfl (oj_val (y_move (fe_t rfl)) ?_)
          refine tl_step rfl (oj_val (y_move (fe_t rfl)) ?_)
          refine tl_step rfl (oj_slice1 Try.underlying27 Try.sizeOf3 Try.zeroValue3 (fe_t rfl) (by decide) rfl (fun b50 => ?_))
          refine tl_step rfl (oj_appendB (i := 3) (s := 1) (z := (.int .i64 0)) (bytes := 8) Try.underlying27 (by kernel_rfl) (fe_t rfl) (fe_t rfl) rfl (rdl_blk 0 rfl) rfl (by decide) (by first | exact oneI | exact oneF (fun _ => rfl) | exact fun u hu => List.all_eq_true.1 (show List.all _ (fun x => x.oneCell') = true from rfl) u hu | (intro u hu; revert u hu; simp [Value.oneCell'])) (by decide) ⟨by omega, by decide⟩ (fun Aa50 ca50 hca50 => ?_))
          refine tl_step rfl (oj_val (y_assign (fe_t rfl)) ?_)
          refine tl_nil ?_
          refine tx_then ?_
          refine tr_pure (mp_nodup 2 rfl) (fun hnd => ?_)
          refine tr_region ?_
          refine tl_step rfl (oj_val (y_ldb 1 Try.isAgg128 (fe_t rfl) rfl rfl) ?_)
          refine tl_step rfl (oj_val (y_move (fe_t rfl)) ?_)
          refine tl_step rfl (oj_mapDel 2 Try.underlying128 Try.underlying3 (fe_t rfl) (fe_t rfl) rfl (?_))
          refine tl_nil ?_
          refine tx_in ?_
          apply tx_back4 (upd f1 (amin f1) none) (_) (L ++ [amin f1]) ((⟨_, _, _, _⟩ : Vs))
          · exact (cov_cons (by first | rfl | exact v_int (by omega) | exact v_bool (by simp [*])) (cov_nil))
          · repeat (first | exact over_nil | refine over_put rfl ?_ | refine over_drop rfl ?_)
          · exact fun w h => h.pick [3, 4, 5, 1, 2] _ rfl (by decide)
          · have hls := hm2.less hmin2
            exact ⟨⟨hm2.del hnd _, hhf.next hmin2, by simp; omega, by simp; omega, by rw [← cI_app, ← hdx]; rfl⟩, by omega⟩
      · try (exfalso; omega)
        all_goals
          refine tr_exit ?_
          refine tx_then_exit ?_
          refine tx_then_exit ?_
          refine tx_in_exit ?_
          refine tx_then ?_
          refine tr_seq ?_
          obtain rfl : i = n := by omega
          refine tr_region ?_
          refine tl_step rfl (oj_val (y_move (fe_t rfl)) ?_)
          refine tl_step rfl (oj_val (y_move (fe_t rfl)) ?_)
          refine tl_step rfl (oj_val (y_move (fe_t rfl)) ?_)
          refine tl_step rfl (oj_val (y_assign (fe_t rfl)) ?_)
          refine tl_step rfl (oj_val (y_assign (fe_t rfl)) ?_)
          refine tl_step rfl (oj_val (y_assign (fe_t rfl)) ?_)
          refine tl_nil ?_
          refine tx_then ?_
          refine tr_ret ?_
          refine tx_ret (res3 Try.results23 (rok_t rfl) (rok_t rfl) (rok_t rfl)) (fun w' hS => ?_)
          have hst : s = run os := by rw [hs, List.take_of_length_le (by omega)]
          exact ⟨⟨e1, p1, d1, d1.c, L⟩, ⟨⟨hen, hst ▸ hel⟩, hst ▸ hex, ⟨hst ▸ hpn, hpi⟩, hst ▸ hpx, ⟨hdn, by dsimp only; omega⟩, hdx, hst ▸ hhf.fin (hm2.emp.2 (by omega))⟩, rfl, hS.pick [2, 1, 0] _ rfl (by decide)⟩

end Go.Proofs.Ytpknjfeiiaopgaa.Heap
