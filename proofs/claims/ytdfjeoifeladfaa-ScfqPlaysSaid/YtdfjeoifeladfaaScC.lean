/- OPlay. -/
import Derived.Test.YtdfjeoifeladfaaScA
import Derived.Test.YtdfjeoifeladfaaScR
namespace Go.Proofs.Ytdfjeoifeladfaa.Scfq
open Go.RowKit Go.Proofs.Ytdfjeoifeladfaa.E

set_option maxRecDepth 100000 in
set_option maxHeartbeats 8000000 in
theorem oplay_ok (A : Option Addr) (n c : Nat) (ws : List Int) (B : Option Addr) (m d : Nat) (os : List O3) (w : World) (hr : Rd w A (ws.map (.int .i64))) (hn : ws.length = n) (hm : n ≤ 140737488355328) (hr2 : Rd w B (os.flatMap c3)) (hn2 : os.length = m) (hm2 : m ≤ 140737488355328) (hw : wrongOf ws = 0) (hmo : m ≤ 400) :
    Calls Try.prog 58 #[.slice A n c, .slice B m d] w fun e w' => ∃ r : S × Vs × Vs × Vs, (Run ws os n m r.1 ∧ (r.2.1.n = r.1.errs.length ∧ r.2.1.xs = cI r.1.errs) ∧ (r.2.2.1.n = r.1.sent.length ∧ r.2.2.1.xs = r.1.sent.flatMap c2) ∧ r.2.2.2.n = n ∧ r.2.2.2.xs = cI (left r.1)) ∧ e = .returned (.tuple #[.slice r.2.1.A r.2.1.n r.2.1.c, .slice r.2.2.1.A r.2.2.1.n r.2.2.1.c, .slice r.2.2.2.A r.2.2.2.n r.2.2.2.c]) ∧ St w w' [vec 26 1 (.slice r.2.1.A r.2.1.n r.2.1.c) r.2.1.n r.2.1.xs, vec 64 2 (.slice r.2.2.1.A r.2.2.1.n r.2.2.1.c) r.2.2.1.n r.2.2.1.xs, vec 3 1 (.slice r.2.2.2.A r.2.2.2.n r.2.2.2.c) r.2.2.2.n r.2.2.2.xs] := by
  obtain ⟨hn16, hgw0⟩ := wrong_ok hw
  have hgw : ∀ k, k < n → 1 ≤ ws.getD k 0 ∧ ws.getD k 0 ≤ 12 := fun k hk => hgw0 k (by omega)
  refine calls_tr Try.func58 Try.ntmps58 rfl rfl (St.refl _) ?_
  refine tr_seq ?_
  refine tr_region ?_
  refine tl_step rfl (oj_val (y_assign fe_c) ?_)
  refine tl_step rfl (oj_val (y_assign fe_c) ?_)
  refine tl_step rfl (oj_val (y_assign fe_c) ?_)
  refine tl_nil ?_
  refine tx_then ?_
  refine tr_seq ?_
  refine tr_region ?_
  refine tl_step rfl (oj_val (y_assign fe_c) ?_)
  refine tl_nil ?_
  refine tx_then ?_
  refine tr_seq ?_
  refine tr_region ?_
  refine tl_step rfl (oj_makeMap (fun b_mp => ?_))
  refine tl_step rfl (oj_val (y_assign (fe_t rfl)) ?_)
  refine tl_nil ?_
  refine tx_then ?_
  refine tr_seq ?_
  refine tr_region ?_
  refine tl_step rfl (oj_val (y_assign fe_c) ?_)
  refine tl_nil ?_
  refine tx_then ?_
  refine tr_seq ?_
  refine tr_region ?_
  refine tl_step rfl (oj_val (y_assign fe_c) ?_)
  refine tl_nil ?_
  refine tx_then ?_
  refine tr_seq ?_
  refine tr_region ?_
  refine tl_step rfl (oj_val (y_assign fe_c) ?_)
  refine tl_nil ?_
  refine tx_then ?_
  refine tr_seq ?_
  refine tr_seq ?_
  refine tr_region ?_
  refine tl_step rfl (oj_val (y_move (fe_t rfl)) ?_)
  refine tl_step rfl (oj_val (y_len Try.underlying101 (fe_t rfl)) ?_)
  refine tl_step rfl (oj_val (y_move fe_c) ?_)
  refine tl_nil ?_
  refine tx_then ?_
  refine tr_block ?_
  refine tr_add (r := vec 174 3 (.slice none 0 0) 0 []) vec_nil rfl ?_
  refine tr_add (r := vec 26 1 (.slice none 0 0) 0 []) vec_nil rfl ?_
  refine tr_add (r := vec 64 2 (.slice none 0 0) 0 []) vec_nil rfl ?_
  refine tr_loop7 [7, 9, 10, 11, 13, 14, 15, 16, 17, 18, 19, 26, 27, 28, 29, 30, 31, 32, 33, 34, 35, 36, 37, 38, 39, 40, 41, 42, 43, 44, 45, 46, 47, 48, 49, 50, 51, 52, 53, 54, 55, 56, 57, 58, 59, 60, 61, 62, 63, 64, 65, 66, 67, 68, 69, 70, 71, 72, 73, 74, 75, 76, 77, 78, 79, 80, 81, 82, 83, 84, 85, 86, 87, 88, 89, 90, 91, 92, 93, 94, 95, 96, 97, 98, 99, 100, 101, 102, 103, 104, 105, 106, 107, 108, 109, 110, 111, 112, 113, 114, 115, 116, 117, 118, 119, 120, 121, 122, 123, 124, 125, 126, 127, 128, 129, 130, 131, 132, 133, 134, 135, 136, 137, 138, 139, 140, 141, 142, 143, 144, 145, 146, 147, 148, 149, 150, 151, 152, 153, 154, 155, 156, 157, 158, 159, 160, 161, 162, 163, 164, 165, 166, 167, 168, 169, 170, 171, 172, 173, 174, 175, 176, 177, 178, 179, 180, 181, 182, 183] (fun (i : Nat) (s : S) (lst : List O3) (v1 : Vs) (mp : List (Int × Value)) (e1 : Vs) (s1 : Vs) => [(26, .int .i64 (i : Int)), (7, .slice v1.A v1.n v1.c), (9, .int .i64 s.now), (10, .slice e1.A e1.n e1.c), (11, .slice s1.A s1.n s1.c)]) 0 (fun (i : Nat) (s : S) (lst : List O3) (v1 : Vs) (mp : List (Int × Value)) (e1 : Vs) (s1 : Vs) => [(2, vec 174 3 (.slice v1.A v1.n v1.c) v1.n v1.xs), (3, mpR b_mp mp []), (1, vec 26 1 (.slice e1.A e1.n e1.c) e1.n e1.xs), (0, vec 64 2 (.slice s1.A s1.n s1.c) s1.n s1.xs)]) (fun (i : Nat) (s : S) (lst : List O3) (v1 : Vs) (mp : List (Int × Value)) (e1 : Vs) (s1 : Vs) => i ≤ m ∧ Run ws os n i s ∧ Rel n lst mp s ∧ lst.length ≤ i ∧ (v1.n = lst.length ∧ v1.xs = lst.flatMap c3) ∧ (e1.n = s.errs.length ∧ e1.xs = cI s.errs) ∧ s1.n = s.sent.length ∧ s1.xs = s.sent.flatMap c2) (fun (i : Nat) (s : S) (lst : List O3) (v1 : Vs) (mp : List (Int × Value)) (e1 : Vs) (s1 : Vs) => m - i) (0) (⟨List.replicate n Q.nil, 0, [], []⟩) ([]) (⟨none, 0, 0, []⟩ : Vs) (_) (⟨none, 0, 0, []⟩ : Vs) (⟨none, 0, 0, []⟩ : Vs) (cov_cons (by first | rfl | exact v_int (by omega) | exact v_int (by dsimp only; omega)) (cov_cons (by first | rfl | exact v_int (by omega) | exact v_int (by dsimp only; omega)) (cov_cons (by first | rfl | exact v_int (by omega) | exact v_int (by dsimp only; omega)) (cov_cons (by first | rfl | exact v_int (by omega) | exact v_int (by dsimp only; omega)) (cov_cons (by first | rfl | exact v_int (by omega) | exact v_int (by dsimp only; omega)) (cov_nil)))))) (fun w h => h) ?_ ?_
  · try dsimp only
    exact ⟨by omega, rfl, rel_zero n, Nat.le_refl _, ⟨rfl, rfl⟩, ⟨rfl, rfl⟩, rfl, rfl⟩
  intro i s lst v1 mp e1 s1 hp
  obtain ⟨hi, hrun, hrel, hll, ⟨hln, hlx⟩, ⟨hen, hex⟩, hsn, hsx⟩ := hp
  have hwf := run_wf hgw hrun
  have hnw := hwf.now
  have hel := hwf.errs
  have hsl := hwf.sent
  refine tr_seq ?_
  refine tr_region ?_
  refine tl_step rfl (oj_val (y_lss (fe_t rfl) (fe_t rfl)) ?_)
  refine tl_nil ?_
  refine tx_then ?_
  refine tr_seq ?_
  refine tr_condp (fe_t rfl) (fun hq1 => ?_) (fun hq2 => ?_)
  · try (exfalso; omega)
    all_goals
      refine tr_skip ?_
      refine tx_then ?_
      refine tr_seq ?_
      refine tr_block ?_
      refine tr_seq ?_
      refine tr_region ?_
      refine tl_step rfl (oj_val (y_index Try.underlying101 Try.sizeOf167 (fe_t rfl) (fe_t rfl) (rdl_out hr2) (lenO hn2) (by decide) (by omega) rfl) ?_)
      refine tl_step rfl (oj_val (y_ldA (cs := [(.int .i64 (o1 os i)), (.int .i64 (o2 os i)), (.int .i64 (o3 os i))]) Try.isAgg167 Try.sizeOf167 (fe_t rfl) (rdl_out hr2) rfl (by decide) (getO (by omega))) ?_)
      refine tl_step rfl (oj_alloc Try.zeroValue167 (fun bo => ?_))
      refine tl_step rfl (oj_storeW 0 Try.sizeOf167 (fe_t rfl) (fe_t rfl) rfl rfl rfl rfl rfl (?_))
      refine tl_nil ?_
      refine tx_then ?_
      refine tr_seq ?_
      refine tr_region ?_
      refine tl_step rfl (oj_val (y_assign fe_c) ?_)
      refine tl_nil ?_
      refine tx_then ?_
      refine tr_seq ?_
      refine tr_block ?_
      refine tr_seq ?_
      refine tr_region ?_
      refine tl_step rfl (oj_val (y_fieldAddr (td := 3) Try.underlying167 rfl rfl Try.sizeOf3 (o' := 0) rfl (fe_t rfl)) ?_)
      refine tl_step rfl (oj_val (y_ldb 0 Try.isAgg3 (fe_t rfl) rfl rfl) ?_)
      refine tl_step rfl (oj_val (y_neq (fe_t rfl) fe_c) ?_)
      refine tl_step rfl (oj_val (y_move (fe_t rfl)) ?_)
      refine tl_splitp (d := 95) rfl (fun hq3 => ?_) (fun hq4 => ?_)
      · try (exfalso; omega)
        all_goals
          refine tl_want rfl rfl rfl (oj_val (y_fieldAddr (td := 3) Try.underlying167 rfl rfl Try.sizeOf3 (o' := 0) rfl (fe_t rfl)) ?_)
          refine tl_want rfl rfl rfl (oj_val (y_ldb 0 Try.isAgg3 (fe_t rfl) rfl rfl) ?_)
          refine tl_want rfl rfl rfl (oj_val (y_neq (fe_t rfl) fe_c) ?_)
          refine tl_step rfl (oj_val (y_pickt (fe_t rfl) (fe_t rfl)) ?_)
          refine tl_step rfl (oj_val (y_assign (fe_t rfl)) ?_)
          refine tl_nil ?_
          refine tx_then ?_
          refine tr_condp (fe_t rfl) (fun hq5 => ?_) (fun hq6 => ?_)
          · try (exfalso; omega)
            all_goals
              refine tr_region ?_
              refine tl_step rfl (oj_val (y_assign fe_c) ?_)
              refine tl_nil ?_
              refine tx_in ?_
              refine tx_then ?_
              refine tr_region ?_
              refine tl_step rfl (oj_val (y_move (fe_t rfl)) ?_)
              refine tl_step rfl (oj_val (y_move (fe_t rfl)) ?_)
              refine tl_step rfl (oj_slice1 Try.underlying102 Try.sizeOf26 Try.zeroValue26 (fe_t rfl) (by decide) rfl (fun b1 => ?_))
              refine tl_step rfl (oj_append (i := 3) (s := 1) (z := (.int .i64 0)) (bytes := 8) Try.underlying102 (by kernel_rfl) (fe_t rfl) (fe_t rfl) rfl (rdl_blk 0 rfl) rfl (by decide) (by first | exact oneI | exact oneF (fun _ => rfl) | exact fun u hu => List.all_eq_true.1 (show List.all _ (fun x => x.oneCell') = true from rfl) u hu | (intro u hu; revert u hu; simp [Value.oneCell'])) (by decide) ⟨by omega, by decide⟩ (fun Aa1 ca1 hca1 => ?_))
              refine tl_step rfl (oj_val (y_assign (fe_t rfl)) ?_)
              refine tl_nil ?_
              refine tx_in ?_
              refine tx_then ?_
              refine tr_region ?_
              refine tl_step rfl (oj_val (y_inc (fe_t rfl) fe_c (by omega)) ?_)
              refine tl_step rfl (oj_val (y_move (fe_t rfl)) ?_)
              refine tl_nil ?_
              apply tx_back7 (i + 1) ({ s with errs := s.errs ++ [5] }) (lst) ((⟨_, _, _, _⟩ : Vs)) (_) ((⟨_, _, _, _⟩ : Vs)) ((⟨_, _, _, _⟩ : Vs))
              · exact (cov_cons (by first | rfl | exact v_int (by omega) | exact v_int (by dsimp only; omega)) (cov_cons (by first | rfl | exact v_int (by omega) | exact v_int (by dsimp only; omega)) (cov_cons (by first | rfl | exact v_int (by omega) | exact v_int (by dsimp only; omega)) (cov_cons (by first | rfl | exact v_int (by omega) | exact v_int (by dsimp only; omega)) (cov_cons (by first | rfl | exact v_int (by omega) | exact v_int (by dsimp only; omega)) (cov_nil))))))
              · repeat (first | exact over_nil | refine over_put rfl ?_ | refine over_drop rfl ?_)
              · exact fun w h => h.pick [2, 3, 4, 5] _ rfl (by decide)
              · exact ⟨⟨by omega, ⟨s, hrun, .kind (by show o1 os i ≠ 1; omega) (by show o1 os i ≠ 2; omega)⟩, rel_err hrel _, by omega, ⟨hln, hlx⟩, ⟨by simp; omega, by dsimp only; rw [hex, cI, cI, List.map_append]; rfl⟩, hsn, hsx⟩, by omega⟩
          · try (exfalso; omega)
            all_goals
              refine tr_seq ?_
              refine tr_seq ?_
              refine tr_region ?_
              refine tl_step rfl (oj_val (y_fieldAddr (td := 3) Try.underlying167 rfl rfl Try.sizeOf3 (o' := 0) rfl (fe_t rfl)) ?_)
              refine tl_step rfl (oj_val (y_ldb 0 Try.isAgg3 (fe_t rfl) rfl rfl) ?_)
              refine tl_step rfl (oj_val (y_eq (fe_t rfl) fe_c) ?_)
              refine tl_step rfl (oj_val (y_move (fe_t rfl)) ?_)
              refine tl_splitp (d := 104) rfl (fun hq7 => ?_) (fun hq8 => ?_)
              · exfalso; omega
              · try (exfalso; omega)
                all_goals
                  refine tl_skip rfl rfl rfl rfl ?_
                  refine tl_skip rfl rfl rfl rfl ?_
                  refine tl_skip rfl rfl rfl rfl ?_
                  refine tl_skip rfl rfl rfl rfl ?_
                  refine tl_skip rfl rfl rfl rfl ?_
                  refine tl_skip rfl rfl rfl rfl ?_
                  refine tl_skip rfl rfl rfl rfl ?_
                  refine tl_skip rfl rfl rfl rfl ?_
                  refine tl_skip rfl rfl rfl rfl ?_
                  refine tl_skip rfl rfl rfl rfl ?_
                  refine tl_step rfl (oj_val (y_pickf (fe_t rfl) fe_c) ?_)
                  refine tl_step rfl (oj_val (y_assign (fe_t rfl)) ?_)
                  refine tl_nil ?_
                  refine tx_then ?_
                  refine tr_condf (fe_t rfl) ?_
                  refine tr_region ?_
                  refine tl_step rfl (oj_val (y_fieldAddr (td := 3) Try.underlying167 rfl rfl Try.sizeOf3 (o' := 0) rfl (fe_t rfl)) ?_)
                  refine tl_step rfl (oj_val (y_ldb 0 Try.isAgg3 (fe_t rfl) rfl rfl) ?_)
                  refine tl_step rfl (oj_val (y_eq (fe_t rfl) fe_c) ?_)
                  refine tl_step rfl (oj_val (y_move (fe_t rfl)) ?_)
                  refine tl_splitp (d := 119) rfl (fun hq9 => ?_) (fun hq10 => ?_)
                  · try (exfalso; omega)
                    all_goals
                      refine tl_want rfl rfl rfl (oj_val (y_move (fe_t rfl)) ?_)
                      refine tl_want rfl rfl rfl (oj_val (y_len Try.underlying171 (fe_t rfl)) ?_)
                      refine tl_want rfl rfl rfl (oj_val (y_eq (fe_t rfl) fe_c) ?_)
                      refine tl_step rfl (oj_val (y_pickt (fe_t rfl) (fe_t rfl)) ?_)
                      refine tl_step rfl (oj_val (y_assign (fe_t rfl)) ?_)
                      refine tl_nil ?_
                      refine tx_then ?_
                      refine tr_condp (fe_t rfl) (fun hq11 => ?_) (fun hq12 => ?_)
                      · try (exfalso; omega)
                        all_goals
                          refine tr_region ?_
                          refine tl_step rfl (oj_val (y_assign fe_c) ?_)
                          refine tl_nil ?_
                          refine tx_in ?_
                          refine tx_then ?_
                          refine tr_region ?_
                          refine tl_step rfl (oj_val (y_move (fe_t rfl)) ?_)
                          refine tl_step rfl (oj_val (y_move (fe_t rfl)) ?_)
                          refine tl_step rfl (oj_slice1 Try.underlying102 Try.sizeOf26 Try.zeroValue26 (fe_t rfl) (by decide) rfl (fun b2 => ?_))
                          refine tl_step rfl (oj_append (i := 3) (s := 1) (z := (.int .i64 0)) (bytes := 8) Try.underlying102 (by kernel_rfl) (fe_t rfl) (fe_t rfl) rfl (rdl_blk 0 rfl) rfl (by decide) (by first | exact oneI | exact oneF (fun _ => rfl) | exact fun u hu => List.all_eq_true.1 (show List.all _ (fun x => x.oneCell') = true from rfl) u hu | (intro u hu; revert u hu; simp [Value.oneCell'])) (by decide) ⟨by omega, by decide⟩ (fun Aa2 ca2 hca2 => ?_))
                          refine tl_step rfl (oj_val (y_assign (fe_t rfl)) ?_)
                          refine tl_nil ?_
                          refine tx_in ?_
                          refine tx_then ?_
                          refine tr_region ?_
                          refine tl_step rfl (oj_val (y_inc (fe_t rfl) fe_c (by omega)) ?_)
                          refine tl_step rfl (oj_val (y_move (fe_t rfl)) ?_)
                          refine tl_nil ?_
                          apply tx_back7 (i + 1) ({ s with errs := s.errs ++ [3] }) (lst) ((⟨_, _, _, _⟩ : Vs)) (_) ((⟨_, _, _, _⟩ : Vs)) ((⟨_, _, _, _⟩ : Vs))
                          · exact (cov_cons (by first | rfl | exact v_int (by omega) | exact v_int (by dsimp only; omega)) (cov_cons (by first | rfl | exact v_int (by omega) | exact v_int (by dsimp only; omega)) (cov_cons (by first | rfl | exact v_int (by omega) | exact v_int (by dsimp only; omega)) (cov_cons (by first | rfl | exact v_int (by omega) | exact v_int (by dsimp only; omega)) (cov_cons (by first | rfl | exact v_int (by omega) | exact v_int (by dsimp only; omega)) (cov_nil))))))
                          · repeat (first | exact over_nil | refine over_put rfl ?_ | refine over_drop rfl ?_)
                          · exact fun w h => h.pick [2, 3, 4, 5] _ rfl (by decide)
                          · exact ⟨⟨by omega, ⟨s, hrun, .nought (by show o1 os i = 2; omega) (fun j hj => by have hl0 : lst = [] := List.eq_nil_of_length_eq_zero (by omega); subst hl0; exact rel_nought hrel hwf hj)⟩, rel_err hrel _, by omega, ⟨hln, hlx⟩, ⟨by simp; omega, by dsimp only; rw [hex, cI, cI, List.map_append]; rfl⟩, hsn, hsx⟩, by omega⟩
                      · try (exfalso; omega)
                        all_goals
                          refine tr_seq ?_
                          refine tr_region ?_
                          refine tl_step rfl (oj_val (y_fieldAddr (td := 3) Try.underlying167 rfl rfl Try.sizeOf3 (o' := 0) rfl (fe_t rfl)) ?_)
                          refine tl_step rfl (oj_val (y_ldb 0 Try.isAgg3 (fe_t rfl) rfl rfl) ?_)
                          refine tl_step rfl (oj_val (y_eq (fe_t rfl) fe_c) ?_)
                          refine tl_step rfl (oj_val (y_move (fe_t rfl)) ?_)
                          refine tl_splitp (d := 128) rfl (fun hq13 => ?_) (fun hq14 => ?_)
                          · exfalso; omega
                          · try (exfalso; omega)
                            all_goals
                              refine tl_skip rfl rfl rfl rfl ?_
                              refine tl_skip rfl rfl rfl rfl ?_
                              refine tl_skip rfl rfl rfl rfl ?_
                              refine tl_skip rfl rfl rfl rfl ?_
                              refine tl_skip rfl rfl rfl rfl ?_
                              refine tl_skip rfl rfl rfl rfl ?_
                              refine tl_skip rfl rfl rfl rfl ?_
                              refine tl_skip rfl rfl rfl rfl ?_
                              refine tl_step rfl (oj_val (y_pickf (fe_t rfl) fe_c) ?_)
                              refine tl_step rfl (oj_val (y_assign (fe_t rfl)) ?_)
                              refine tl_nil ?_
                              refine tx_then ?_
                              refine tr_condf (fe_t rfl) ?_
                              refine tr_seq ?_
                              refine tr_region ?_
                              refine tl_step rfl (oj_val (y_fieldAddr (td := 3) Try.underlying167 rfl rfl Try.sizeOf3 (o' := 0) rfl (fe_t rfl)) ?_)
                              refine tl_step rfl (oj_val (y_ldb 0 Try.isAgg3 (fe_t rfl) rfl rfl) ?_)
                              refine tl_step rfl (oj_val (y_eq (fe_t rfl) fe_c) ?_)
                              refine tl_step rfl (oj_val (y_assign (fe_t rfl)) ?_)
                              refine tl_nil ?_
                              refine tx_then ?_
                              refine tr_condp (fe_t rfl) (fun hq15 => ?_) (fun hq16 => ?_)
                              · exfalso; omega
                              · try (exfalso; omega)
                                all_goals
                                  refine tr_seq ?_
                                  refine tr_region ?_
                                  refine tl_step rfl (oj_val (y_assign fe_c) ?_)
                                  refine tl_nil ?_
                                  refine tx_then ?_
                                  refine tr_seq ?_
                                  refine tr_seq ?_
                                  refine tr_region ?_
                                  refine tl_step rfl (oj_val (y_move (fe_t rfl)) ?_)
                                  refine tl_step rfl (oj_val (y_len Try.underlying171 (fe_t rfl)) ?_)
                                  refine tl_step rfl (oj_val (y_move fe_c) ?_)
                                  refine tl_nil ?_
                                  refine tx_then ?_
                                  refine tr_block ?_
                                  refine tr_loop2 [16, 17, 18, 32, 33, 34, 35, 36, 37, 38, 39, 40, 41, 42, 43, 44, 45, 46, 47, 48, 49, 50, 51, 52, 53, 54, 55, 56, 57, 58, 59, 60, 61, 62, 63, 64, 65, 66] (fun (k : Nat) (b : Nat) => [(32, .int .i64 (k : Int)), (16, .int .i64 (b : Int))]) 0 (fun (k : Nat) (b : Nat) => []) (fun (k : Nat) (b : Nat) => k ≤ v1.n ∧ b < v1.n ∧ Lst lst k b) (fun (k : Nat) (b : Nat) => v1.n - k) (0) (0) (cov_cons (by first | rfl | exact v_int (by omega) | exact v_int (by dsimp only; omega)) (cov_cons (by first | rfl | exact v_int (by omega) | exact v_int (by dsimp only; omega)) (cov_nil))) (fun w h => h) ?_ ?_
                                  · try dsimp only
                                    exact ⟨by omega, by omega, fun j hj => by omega⟩
                                  intro k b hp
                                  obtain ⟨hk, hbl, hb⟩ := hp
                                  refine tr_seq ?_
                                  refine tr_region ?_
                                  refine tl_step rfl (oj_val (y_lss (fe_t rfl) (fe_t rfl)) ?_)
                                  refine tl_nil ?_
                                  refine tx_then ?_
                                  refine tr_seq ?_
                                  refine tr_condp (fe_t rfl) (fun hq17 => ?_) (fun hq18 => ?_)
                                  · try (exfalso; omega)
                                    all_goals
                                      refine tr_skip ?_
                                      refine tx_then ?_
                                      refine tr_seq ?_
                                      refine tr_block ?_
                                      refine tr_seq ?_
                                      refine tr_region ?_
                                      refine tl_step rfl (oj_val (y_move (fe_t rfl)) ?_)
                                      refine tl_step rfl (oj_val (y_index Try.underlying171 Try.sizeOf174 (fe_t rfl) (fe_t rfl) (rdl_vec 3 rfl) (by (try rw [hlx]); rw [flat_len hc3]; omega) (by decide) (by omega) rfl) ?_)
                                      refine tl_step rfl (oj_val (y_ldA (cs := [(.int .i64 (o1 lst k)), (.int .i64 (o2 lst k)), (.int .i64 (o3 lst k))]) Try.isAgg174 Try.sizeOf174 (fe_t rfl) (rdl_vec 3 rfl) rfl (by decide) (by rw [hlx]; exact getO (by omega))) ?_)
                                      refine tl_step rfl (oj_alloc Try.zeroValue174 (fun bx => ?_))
                                      refine tl_step rfl (oj_val (y_assign (fe_t rfl)) ?_)
                                      refine tl_step rfl (oj_storeW 0 Try.sizeOf174 (fe_t rfl) (fe_t rfl) rfl rfl rfl rfl rfl (?_))
                                      refine tl_nil ?_
                                      refine tx_then ?_
                                      refine tr_seq ?_
                                      refine tb_draw 28 (sel _ [0, 1, 2, 3, 4, 5]) (fun w h => h.sel _ rfl (by decide)) rfl ?_
                                      refine tb_float (i := 0) rfl (by kernel_rfl) rfl (wants_none rfl) (yq_of (y_fieldAddr (td := 3) Try.underlying174 rfl rfl Try.sizeOf3 (o' := 2) rfl (fe_t rfl))) ?_
                                      refine tb_float (i := 1) rfl (by kernel_rfl) rfl (wants_none rfl) (yq_of (y_ldb 0 Try.isAgg3 (fe_t rfl) rfl rfl)) ?_
                                      refine tb_float (i := 2) rfl (by kernel_rfl) rfl (wants_none rfl) (yq_of (y_move (fe_t rfl))) ?_
                                      refine tb_float (i := 3) rfl (by kernel_rfl) rfl (wants_none rfl) (yq_of (y_move (fe_t rfl))) ?_
                                      refine tb_float (i := 4) rfl (by kernel_rfl) rfl (wants_none rfl) (yq_of (y_index Try.underlying171 Try.sizeOf174 (fe_t rfl) (fe_t rfl) (rdl_vec 4 rfl) (by (try rw [hlx]); rw [flat_len hc3]; omega) (by decide) (by omega) rfl)) ?_
                                      refine tb_float (i := 5) rfl (by kernel_rfl) rfl (wants_none rfl) (yq_of (y_fieldAddrE (td := 3) Try.underlying174 rfl rfl Try.sizeOf3 rfl (fe_t rfl) (rdl_vec 4 rfl) (by (try rw [hlx]); rw [flat_len hc3]; omega))) ?_
                                      refine tb_float (i := 6) rfl (by kernel_rfl) rfl (wants_none rfl) (yq_of (y_ld (v := (.int .i64 (o3 lst b))) Try.isAgg3 (fe_t rfl) (rdl_vec 4 rfl) (by rw [hlx]; exact getO3 (by omega)))) ?_
                                      refine tb_float (i := 7) rfl (by kernel_rfl) rfl (wants_none rfl) (yq_of (y_lss (fe_t rfl) (fe_t rfl))) ?_
                                      refine tb_float (i := 8) rfl (by kernel_rfl) rfl (wants_none rfl) (yq_of (y_move (fe_t rfl))) ?_
                                      refine tb_splitp (d := 45) rfl (fun hq19 => ?_) (fun hq20 => ?_)
                                      · try (exfalso; omega)
                                        all_goals
                                          refine tb_skip (i := 9) rfl (by kernel_rfl) rfl (wants_f rfl rfl rfl rfl) ?_
                                          refine tb_skip (i := 10) rfl (by kernel_rfl) rfl (wants_f rfl rfl rfl rfl) ?_
                                          refine tb_skip (i := 11) rfl (by kernel_rfl) rfl (wants_f rfl rfl rfl rfl) ?_
                                          refine tb_skip (i := 12) rfl (by kernel_rfl) rfl (wants_f rfl rfl rfl rfl) ?_
                                          refine tb_skip (i := 13) rfl (by kernel_rfl) rfl (wants_f rfl rfl rfl rfl) ?_
                                          refine tb_skip (i := 14) rfl (by kernel_rfl) rfl (wants_f rfl rfl rfl rfl) ?_
                                          refine tb_skip (i := 15) rfl (by kernel_rfl) rfl (wants_f rfl rfl rfl rfl) ?_
                                          refine tb_skip (i := 16) rfl (by kernel_rfl) rfl (wants_f rfl rfl rfl rfl) ?_
                                          refine tb_skip (i := 17) rfl (by kernel_rfl) rfl (wants_f rfl rfl rfl rfl) ?_
                                          refine tb_skip (i := 18) rfl (by kernel_rfl) rfl (wants_undef rfl rfl rfl) ?_
                                          refine tb_skip (i := 19) rfl (by kernel_rfl) rfl (wants_undef rfl rfl rfl) ?_
                                          refine tb_skip (i := 20) rfl (by kernel_rfl) rfl (wants_undef rfl rfl rfl) ?_
                                          refine tb_skip (i := 21) rfl (by kernel_rfl) rfl (wants_undef rfl rfl rfl) ?_
                                          refine tb_skip (i := 22) rfl (by kernel_rfl) rfl (wants_undef rfl rfl rfl) ?_
                                          refine tb_skip (i := 23) rfl (by kernel_rfl) rfl (wants_undef rfl rfl rfl) ?_
                                          refine tb_skip (i := 24) rfl (by kernel_rfl) rfl (wants_undef rfl rfl rfl) ?_
                                          refine tb_skip (i := 25) rfl (by kernel_rfl) rfl (wants_undef rfl rfl rfl) ?_
                                          refine tb_skip (i := 26) rfl (by kernel_rfl) rfl (wants_f rfl rfl rfl rfl) ?_
                                          refine tb_float (i := 27) rfl (by kernel_rfl) rfl (wants_none rfl) (yq_of (y_pickt (fe_t rfl) fe_c)) ?_
                                          refine tb_done (by kernel_rfl) ?_
                                          refine tx_then ?_
                                          refine tr_condt (fe_t rfl) ?_
                                          refine tr_region ?_
                                          refine tl_step rfl (oj_val (y_move (fe_t rfl)) ?_)
                                          refine tl_step rfl (oj_val (y_assign (fe_t rfl)) ?_)
                                          refine tl_nil ?_
                                          refine tx_in ?_
                                          refine tx_then ?_
                                          refine tr_region ?_
                                          refine tl_step rfl (oj_val (y_inc (fe_t rfl) fe_c (by omega)) ?_)
                                          refine tl_step rfl (oj_val (y_move (fe_t rfl)) ?_)
                                          refine tl_nil ?_
                                          apply tx_back2 (k + 1) (k)
                                          · exact (cov_cons (by first | rfl | exact v_int (by omega) | exact v_int (by dsimp only; omega)) (cov_cons (by first | rfl | exact v_int (by omega) | exact v_int (by dsimp only; omega)) (cov_nil)))
                                          · repeat (first | exact over_nil | refine over_put rfl ?_ | refine over_drop rfl ?_)
                                          · exact fun w h => h.pick [1, 2, 3, 4, 5] _ rfl (by decide)
                                          · first
                                              | exact ⟨⟨by omega, by omega, hb.take (by omega)⟩, by omega⟩
                                              | exact ⟨⟨by omega, by omega, hb.keep (by omega)⟩, by omega⟩
                                      · try (exfalso; omega)
                                        all_goals
                                          refine tb_float (i := 9) rfl (by kernel_rfl) rfl (wants_t rfl rfl rfl) (yq_of (y_fieldAddr (td := 3) Try.underlying174 rfl rfl Try.sizeOf3 (o' := 2) rfl (fe_t rfl))) ?_
                                          refine tb_float (i := 10) rfl (by kernel_rfl) rfl (wants_t rfl rfl rfl) (yq_of (y_ldb 0 Try.isAgg3 (fe_t rfl) rfl rfl)) ?_
                                          refine tb_float (i := 11) rfl (by kernel_rfl) rfl (wants_t rfl rfl rfl) (yq_of (y_move (fe_t rfl))) ?_
                                          refine tb_float (i := 12) rfl (by kernel_rfl) rfl (wants_t rfl rfl rfl) (yq_of (y_move (fe_t rfl))) ?_
                                          refine tb_float (i := 13) rfl (by kernel_rfl) rfl (wants_t rfl rfl rfl) (yq_of (y_index Try.underlying171 Try.sizeOf174 (fe_t rfl) (fe_t rfl) (rdl_vec 4 rfl) (by (try rw [hlx]); rw [flat_len hc3]; omega) (by decide) (by omega) rfl)) ?_
                                          refine tb_float (i := 14) rfl (by kernel_rfl) rfl (wants_t rfl rfl rfl) (yq_of (y_fieldAddrE (td := 3) Try.underlying174 rfl rfl Try.sizeOf3 rfl (fe_t rfl) (rdl_vec 4 rfl) (by (try rw [hlx]); rw [flat_len hc3]; omega))) ?_
                                          refine tb_float (i := 15) rfl (by kernel_rfl) rfl (wants_t rfl rfl rfl) (yq_of (y_ld (v := (.int .i64 (o3 lst b))) Try.isAgg3 (fe_t rfl) (rdl_vec 4 rfl) (by rw [hlx]; exact getO3 (by omega)))) ?_
                                          refine tb_float (i := 16) rfl (by kernel_rfl) rfl (wants_t rfl rfl rfl) (yq_of (y_eq (fe_t rfl) (fe_t rfl))) ?_
                                          refine tb_float (i := 17) rfl (by kernel_rfl) rfl (wants_t rfl rfl rfl) (yq_of (y_move (fe_t rfl))) ?_
                                          refine tb_splitp (d := 54) rfl (fun hq21 => ?_) (fun hq22 => ?_)
                                          · try (exfalso; omega)
                                            all_goals
                                              refine tb_float (i := 18) rfl (by kernel_rfl) rfl (wants_t rfl rfl rfl) (yq_of (y_fieldAddr (td := 3) Try.underlying174 rfl rfl Try.sizeOf3 (o' := 0) rfl (fe_t rfl))) ?_
                                              refine tb_float (i := 19) rfl (by kernel_rfl) rfl (wants_t rfl rfl rfl) (yq_of (y_ldb 0 Try.isAgg3 (fe_t rfl) rfl rfl)) ?_
                                              refine tb_float (i := 20) rfl (by kernel_rfl) rfl (wants_t rfl rfl rfl) (yq_of (y_move (fe_t rfl))) ?_
                                              refine tb_float (i := 21) rfl (by kernel_rfl) rfl (wants_t rfl rfl rfl) (yq_of (y_move (fe_t rfl))) ?_
                                              refine tb_float (i := 22) rfl (by kernel_rfl) rfl (wants_t rfl rfl rfl) (yq_of (y_index Try.underlying171 Try.sizeOf174 (fe_t rfl) (fe_t rfl) (rdl_vec 4 rfl) (by (try rw [hlx]); rw [flat_len hc3]; omega) (by decide) (by omega) rfl)) ?_
                                              refine tb_float (i := 23) rfl (by kernel_rfl) rfl (wants_t rfl rfl rfl) (yq_of (y_fieldAddrE (td := 3) Try.underlying174 rfl rfl Try.sizeOf3 rfl (fe_t rfl) (rdl_vec 4 rfl) (by (try rw [hlx]); rw [flat_len hc3]; omega))) ?_
                                              refine tb_float (i := 24) rfl (by kernel_rfl) rfl (wants_t rfl rfl rfl) (yq_of (y_ld (v := (.int .i64 (o1 lst b))) Try.isAgg3 (fe_t rfl) (rdl_vec 4 rfl) (by rw [hlx]; exact getO1 (by omega)))) ?_
                                              refine tb_float (i := 25) rfl (by kernel_rfl) rfl (wants_t rfl rfl rfl) (yq_of (y_lss (fe_t rfl) (fe_t rfl))) ?_
                                              refine tb_float (i := 26) rfl (by kernel_rfl) rfl (wants_t rfl rfl rfl) (yq_of (y_pickt (fe_t rfl) (fe_t rfl))) ?_
                                              refine tb_float (i := 27) rfl (by kernel_rfl) rfl (wants_none rfl) (yq_of (y_pickf (fe_t rfl) (fe_t rfl))) ?_
                                              refine tb_done (by kernel_rfl) ?_
                                              refine tx_then ?_
                                              refine tr_condp (fe_t rfl) (fun hq23 => ?_) (fun hq24 => ?_)
                                              · try (exfalso; omega)
                                                all_goals
                                                  refine tr_region ?_
                                                  refine tl_step rfl (oj_val (y_move (fe_t rfl)) ?_)
                                                  refine tl_step rfl (oj_val (y_assign (fe_t rfl)) ?_)
                                                  refine tl_nil ?_
                                                  refine tx_in ?_
                                                  refine tx_then ?_
                                                  refine tr_region ?_
                                                  refine tl_step rfl (oj_val (y_inc (fe_t rfl) fe_c (by omega)) ?_)
                                                  refine tl_step rfl (oj_val (y_move (fe_t rfl)) ?_)
                                                  refine tl_nil ?_
                                                  apply tx_back2 (k + 1) (k)
                                                  · exact (cov_cons (by first | rfl | exact v_int (by omega) | exact v_int (by dsimp only; omega)) (cov_cons (by first | rfl | exact v_int (by omega) | exact v_int (by dsimp only; omega)) (cov_nil)))
                                                  · repeat (first | exact over_nil | refine over_put rfl ?_ | refine over_drop rfl ?_)
                                                  · exact fun w h => h.pick [1, 2, 3, 4, 5] _ rfl (by decide)
                                                  · first
                                                      | exact ⟨⟨by omega, by omega, hb.take (by omega)⟩, by omega⟩
                                                      | exact ⟨⟨by omega, by omega, hb.keep (by omega)⟩, by omega⟩
                                              · try (exfalso; omega)
                                                all_goals
                                                  refine tr_skip ?_
                                                  refine tx_in ?_
                                                  refine tx_then ?_
                                                  refine tr_region ?_
                                                  refine tl_step rfl (oj_val (y_inc (fe_t rfl) fe_c (by omega)) ?_)
                                                  refine tl_step rfl (oj_val (y_move (fe_t rfl)) ?_)
                                                  refine tl_nil ?_
                                                  apply tx_back2 (k + 1) (b)
                                                  · exact (cov_cons (by first | rfl | exact v_int (by omega) | exact v_int (by dsimp only; omega)) (cov_cons (by first | rfl | exact v_int (by omega) | exact v_int (by dsimp only; omega)) (cov_nil)))
                                                  · repeat (first | exact over_nil | refine over_put rfl ?_ | refine over_drop rfl ?_)
                                                  · exact fun w h => h.pick [1, 2, 3, 4, 5] _ rfl (by decide)
                                                  · first
                                                      | exact ⟨⟨by omega, by omega, hb.take (by omega)⟩, by omega⟩
                                                      | exact ⟨⟨by omega, by omega, hb.keep (by omega)⟩, by omega⟩
                                          · try (exfalso; omega)
                                            all_goals
                                              refine tb_skip (i := 18) rfl (by kernel_rfl) rfl (wants_f rfl rfl rfl rfl) ?_
                                              refine tb_skip (i := 19) rfl (by kernel_rfl) rfl (wants_f rfl rfl rfl rfl) ?_
                                              refine tb_skip (i := 20) rfl (by kernel_rfl) rfl (wants_f rfl rfl rfl rfl) ?_
                                              refine tb_skip (i := 21) rfl (by kernel_rfl) rfl (wants_f rfl rfl rfl rfl) ?_
                                              refine tb_skip (i := 22) rfl (by kernel_rfl) rfl (wants_f rfl rfl rfl rfl) ?_
                                              refine tb_skip (i := 23) rfl (by kernel_rfl) rfl (wants_f rfl rfl rfl rfl) ?_
                                              refine tb_skip (i := 24) rfl (by kernel_rfl) rfl (wants_f rfl rfl rfl rfl) ?_
                                              refine tb_skip (i := 25) rfl (by kernel_rfl) rfl (wants_f rfl rfl rfl rfl) ?_
                                              refine tb_float (i := 26) rfl (by kernel_rfl) rfl (wants_t rfl rfl rfl) (yq_of (y_pickf (fe_t rfl) fe_c)) ?_
                                              refine tb_float (i := 27) rfl (by kernel_rfl) rfl (wants_none rfl) (yq_of (y_pickf (fe_t rfl) (fe_t rfl))) ?_
                                              refine tb_done (by kernel_rfl) ?_
                                              refine tx_then ?_
                                              refine tr_condf (fe_t rfl) ?_
                                              refine tr_skip ?_
                                              refine tx_in ?_
                                              refine tx_then ?_
                                              refine tr_region ?_
                                              refine tl_step rfl (oj_val (y_inc (fe_t rfl) fe_c (by omega)) ?_)
                                              refine tl_step rfl (oj_val (y_move (fe_t rfl)) ?_)
                                              refine tl_nil ?_
                                              apply tx_back2 (k + 1) (b)
                                              · exact (cov_cons (by first | rfl | exact v_int (by omega) | exact v_int (by dsimp only; omega)) (cov_cons (by first | rfl | exact v_int (by omega) | exact v_int (by dsimp only; omega)) (cov_nil)))
                                              · repeat (first | exact over_nil | refine over_put rfl ?_ | refine over_drop rfl ?_)
                                              · exact fun w h => h.pick [1, 2, 3, 4, 5] _ rfl (by decide)
                                              · first
                                                  | exact ⟨⟨by omega, by omega, hb.take (by omega)⟩, by omega⟩
                                                  | exact ⟨⟨by omega, by omega, hb.keep (by omega)⟩, by omega⟩
                                  · try (exfalso; omega)
                                    all_goals
                                      refine tr_exit ?_
                                      refine tx_then_exit ?_
                                      refine tx_then_exit ?_
                                      refine tx_in_exit ?_
                                      refine tx_then ?_
                                      refine tr_seq ?_
                                      obtain ⟨q, hqn, hqo, hqt, hqh, hqb, hqm, hqr⟩ := rel_out hrel hwf (b := b) (by omega) (fun j hj => hb j (by omega))
                                      refine tr_region ?_
                                      refine tl_step rfl (oj_val (y_move (fe_t rfl)) ?_)
                                      refine tl_step rfl (oj_val (y_move (fe_t rfl)) ?_)
                                      refine tl_step rfl (oj_val (y_index Try.underlying171 Try.sizeOf174 (fe_t rfl) (fe_t rfl) (rdl_vec 3 rfl) (by (try rw [hlx]); rw [flat_len hc3]; omega) (by decide) (by omega) rfl) ?_)
                                      refine tl_step rfl (oj_val (y_ldA (cs := [(.int .i64 (o1 lst b)), (.int .i64 (o2 lst b)), (.int .i64 (o3 lst b))]) Try.isAgg174 Try.sizeOf174 (fe_t rfl) (rdl_vec 3 rfl) rfl (by decide) (by rw [hlx]; exact getO (by omega))) ?_)
                                      refine tl_step rfl (oj_alloc Try.zeroValue174 (fun bz => ?_))
                                      refine tl_step rfl (oj_storeW 0 Try.sizeOf174 (fe_t rfl) (fe_t rfl) rfl rfl rfl rfl rfl (?_))
                                      refine tl_nil ?_
                                      refine tx_then ?_
                                      refine tr_seq ?_
                                      refine tr_region ?_
                                      refine tl_step rfl (oj_val (y_fieldAddr (td := 3) Try.underlying174 rfl rfl Try.sizeOf3 (o' := 2) rfl (fe_t rfl)) ?_)
                                      refine tl_step rfl (oj_val (y_ldb 0 Try.isAgg3 (fe_t rfl) rfl rfl) ?_)
                                      refine tl_step rfl (oj_val (y_assign (fe_t rfl)) ?_)
                                      refine tl_nil ?_
                                      refine tx_then ?_
                                      refine tr_seq ?_
                                      refine tr_region ?_
                                      refine tl_step rfl (oj_val (y_move (fe_t rfl)) ?_)
                                      refine tl_step rfl (oj_val (y_fieldAddr (td := 3) Try.underlying174 rfl rfl Try.sizeOf3 (o' := 0) rfl (fe_t rfl)) ?_)
                                      refine tl_step rfl (oj_val (y_ldb 0 Try.isAgg3 (fe_t rfl) rfl rfl) ?_)
                                      refine tl_step rfl (oj_val (y_fieldAddr (td := 3) Try.underlying174 rfl rfl Try.sizeOf3 (o' := 1) rfl (fe_t rfl)) ?_)
                                      refine tl_step rfl (oj_val (y_ldb 0 Try.isAgg3 (fe_t rfl) rfl rfl) ?_)
                                      refine tl_step rfl (oj_val ((fun {u0 u1} hx hb => y_build (is := [0, 1]) (vs := [u0, u1]) (cs := [u0, u1]) rfl hx hb) (fel_cons (fe_t rfl) (fel_cons (fe_t rfl) fel_nil)) (by kernel_rfl)) ?_)
                                      refine tl_step rfl (oj_slice1 Try.underlying54 Try.sizeOf64 Try.zeroValue64 (fe_t rfl) (by decide) rfl (fun b3 => ?_))
                                      refine tl_step rfl (oj_append (i := 3) (s := 2) (z := (.agg #[.int .i64 0, .int .i64 0])) (bytes := 16) Try.underlying54 (by kernel_rfl) (fe_t rfl) (fe_t rfl) rfl (rdl_blk 0 rfl) rfl (by decide) (by first | exact oneI | exact oneF (fun _ => rfl) | exact fun u hu => List.all_eq_true.1 (show List.all _ (fun x => x.oneCell') = true from rfl) u hu | (intro u hu; revert u hu; simp [Value.oneCell'])) (by decide) ⟨by omega, by decide⟩ (fun Aa3 ca3 hca3 => ?_))
                                      refine tl_step rfl (oj_val (y_assign (fe_t rfl)) ?_)
                                      refine tl_nil ?_
                                      refine tx_then ?_
                                      refine tr_pure (φ := v1.n ≤ v1.c) (fun w h => (OwnV.rd (h.holds 5 _ rfl)).2.1) (fun hlc => ?_)
                                      refine tb_draw 11 (sel _ [0, 1, 2, 3, 4, 5, 6]) (fun w h => h.sel _ rfl (by decide)) rfl ?_
                                      refine tb_float (i := 1) rfl (by kernel_rfl) rfl (wants_none rfl) (yq_of (y_move (fe_t rfl))) ?_
                                      refine tb_float (i := 2) rfl (by kernel_rfl) rfl (wants_none rfl) (yq_of (y_move (fe_t rfl))) ?_
                                      refine tb_float (i := 3) rfl (by kernel_rfl) rfl (wants_none rfl) (yq_of (y_cutH (l := b) Try.underlying171 Try.sizeOf174 (fe_t rfl) (fe_t rfl) (by have := hlc; omega))) ?_
                                      refine tb_float (i := 5) rfl (by kernel_rfl) rfl (wants_none rfl) (yq_of (y_move (fe_t rfl))) ?_
                                      refine tb_float (i := 6) rfl (by kernel_rfl) rfl (wants_none rfl) (yq_of (y_move (fe_t rfl))) ?_
                                      refine tb_float (i := 7) rfl (by kernel_rfl) rfl (wants_none rfl) (yq_of (y_inc (fe_t rfl) fe_c (by omega))) ?_
                                      refine tb_float (i := 8) rfl (by kernel_rfl) rfl (wants_none rfl) (yq_of (y_cutL (l := b + 1) Try.underlying171 Try.sizeOf174 (fe_t rfl) (fe_t rfl) (by omega))) ?_
                                      refine tb_one2 (i := 0) rfl (by kernel_rfl) (by kernel_rfl) (wants_none rfl) (oj_slice0 Try.underlying171 Try.sizeOf174 (fun g1 => ⟨fun w h => h.pick [1, 2, 3, 4, 5, 6, 7] _ rfl (by decide), ?_⟩))
                                      refine tb_one2 (i := 4) rfl (by kernel_rfl) (by kernel_rfl) (wants_none rfl) (oj_appg (i := 0) (s := 3) (z := (.agg #[.int .i64 0, .int .i64 0, .int .i64 0])) (bytes := 24) Try.underlying171 (by kernel_rfl) (fe_t rfl) (fe_t rfl) rfl (rdl_cutH (l := b) 6 rfl (by omega)) (by rw [List.length_take]; (try rw [hlx]); rw [flat_len hc3]; omega) (by decide) (fun u hu => by (try rw [hlx] at hu); exact oneF (c := c3) (fun _ => rfl) u (List.mem_of_mem_take hu)) ⟨by omega, by decide⟩ (fun Aa4 ca4 hca4 => ⟨fun w h => h.pick [1, 2, 3, 4, 5, 6, 7] _ rfl (by decide), ?_⟩))
                                      refine tb_one2 (i := 9) rfl (by kernel_rfl) (by kernel_rfl) (wants_none rfl) (oj_appg (i := 0) (s := 3) (z := (.agg #[.int .i64 0, .int .i64 0, .int .i64 0])) (bytes := 24) Try.underlying171 (by kernel_rfl) (fe_t rfl) (fe_t rfl) rfl (rdl_cutL (l := b + 1) 6 rfl (by omega)) (by rw [List.length_drop]; (try rw [hlx]); rw [flat_len hc3]; omega) (by decide) (fun u hu => by (try rw [hlx] at hu); exact oneF (c := c3) (fun _ => rfl) u (List.mem_of_mem_drop hu)) ⟨by omega, by decide⟩ (fun Aa5 ca5 hca5 => ⟨fun w h => h.pick [1, 2, 3, 4, 5, 6, 7] _ rfl (by decide), ?_⟩))
                                      refine tb_float (i := 10) rfl (by kernel_rfl) rfl (wants_none rfl) (yq_of (y_assign (fe_t rfl))) ?_
                                      refine tb_done (by kernel_rfl) ?_
                                      refine tx_in ?_
                                      refine tx_then ?_
                                      refine tr_region ?_
                                      refine tl_step rfl (oj_val (y_move (fe_t rfl)) ?_)
                                      refine tl_step rfl (oj_val (y_move (fe_t rfl)) ?_)
                                      refine tl_step rfl (oj_slice1 Try.underlying102 Try.sizeOf26 Try.zeroValue26 (fe_t rfl) (by decide) rfl (fun b4 => ?_))
                                      refine tl_step rfl (oj_append (i := 6) (s := 1) (z := (.int .i64 0)) (bytes := 8) Try.underlying102 (by kernel_rfl) (fe_t rfl) (fe_t rfl) rfl (rdl_blk 0 rfl) rfl (by decide) (by first | exact oneI | exact oneF (fun _ => rfl) | exact fun u hu => List.all_eq_true.1 (show List.all _ (fun x => x.oneCell') = true from rfl) u hu | (intro u hu; revert u hu; simp [Value.oneCell'])) (by decide) ⟨by omega, by decide⟩ (fun Aa6 ca6 hca6 => ?_))
                                      refine tl_step rfl (oj_val (y_assign (fe_t rfl)) ?_)
                                      refine tl_nil ?_
                                      refine tx_in ?_
                                      refine tx_then ?_
                                      refine tr_region ?_
                                      refine tl_step rfl (oj_val (y_inc (fe_t rfl) fe_c (by omega)) ?_)
                                      refine tl_step rfl (oj_val (y_move (fe_t rfl)) ?_)
                                      refine tl_nil ?_
                                      apply tx_back7 (i + 1) (⟨s.fs.set q ⟨(fq s q).bs.drop 1, (fq s q).ts.drop 1, (fq s q).last⟩, hd (fq s q).ts, s.errs ++ [0], s.sent ++ [((q : Int), hd (fq s q).bs)]⟩) (lst.eraseIdx b) ((⟨_, _, _, _⟩ : Vs)) (_) ((⟨_, _, _, _⟩ : Vs)) ((⟨_, _, _, _⟩ : Vs))
                                      · exact (cov_cons (by first | rfl | exact v_int (by omega) | exact v_int (by dsimp only; omega)) (cov_cons (by first | rfl | exact v_int (by omega) | exact v_int (by dsimp only; omega)) (cov_cons (by first | rfl | exact v_int (by omega) | exact v_int (by dsimp only; omega)) (cov_cons (by first | rfl | exact v_int (by omega) | exact v_int (by dsimp only; omega)) (cov_cons (by first | rfl | exact v_int (by omega) | exact v_int (by dsimp only; omega)) (cov_nil))))))
                                      · repeat (first | exact over_nil | refine over_put rfl ?_ | refine over_drop rfl ?_)
                                      · exact fun w h => h.pick [5, 6, 1, 8] _ rfl (by decide)
                                      · exact ⟨⟨by omega, ⟨s, hrun, .out q (by show o1 os i = 2; omega) hqn hqt hqm⟩, hqr _ _ _, by rw [List.length_eraseIdx_of_lt (by omega)]; omega, ⟨by rw [List.length_eraseIdx_of_lt (by omega)]; simp; omega, by dsimp only; rw [hlx, List.nil_append, flat_take hc3, flat_drop hc3, ← List.flatMap_append, List.eraseIdx_eq_take_drop_succ]⟩, ⟨by simp; omega, by dsimp only; rw [hex, cI, cI, List.map_append]; rfl⟩, by simp; omega, by dsimp only; rw [hsx, List.flatMap_append, hqo, hqb]; rfl⟩, by omega⟩
                  · exfalso; omega
      · try (exfalso; omega)
        all_goals
          refine tl_skip rfl rfl rfl rfl ?_
          refine tl_skip rfl rfl rfl rfl ?_
          refine tl_skip rfl rfl rfl rfl ?_
          refine tl_step rfl (oj_val (y_pickf (fe_t rfl) fe_c) ?_)
          refine tl_step rfl (oj_val (y_assign (fe_t rfl)) ?_)
          refine tl_nil ?_
          refine tx_then ?_
          refine tr_condf (fe_t rfl) ?_
          refine tr_seq ?_
          refine tr_seq ?_
          refine tr_region ?_
          refine tl_step rfl (oj_val (y_fieldAddr (td := 3) Try.underlying167 rfl rfl Try.sizeOf3 (o' := 0) rfl (fe_t rfl)) ?_)
          refine tl_step rfl (oj_val (y_ldb 0 Try.isAgg3 (fe_t rfl) rfl rfl) ?_)
          refine tl_step rfl (oj_val (y_eq (fe_t rfl) fe_c) ?_)
          refine tl_step rfl (oj_val (y_move (fe_t rfl)) ?_)
          refine tl_splitp (d := 104) rfl (fun hq25 => ?_) (fun hq26 => ?_)
          · try (exfalso; omega)
            all_goals
              refine tl_want rfl rfl rfl (oj_val (y_fieldAddr (td := 3) Try.underlying167 rfl rfl Try.sizeOf3 (o' := 1) rfl (fe_t rfl)) ?_)
              refine tl_want rfl rfl rfl (oj_val (y_ldb 0 Try.isAgg3 (fe_t rfl) rfl rfl) ?_)
              refine tl_want rfl rfl rfl (oj_val (y_lss (fe_t rfl) fe_c) ?_)
              refine tl_want rfl rfl rfl (oj_val (y_move (fe_t rfl)) ?_)
              refine tl_splitp (d := 108) rfl (fun hq27 => ?_) (fun hq28 => ?_)
              · try (exfalso; omega)
                all_goals
                  refine tl_skip rfl rfl rfl rfl ?_
                  refine tl_skip rfl rfl rfl rfl ?_
                  refine tl_skip rfl rfl rfl rfl ?_
                  refine tl_skip rfl rfl rfl rfl ?_
                  refine tl_skip rfl rfl rfl rfl ?_
                  refine tl_want rfl rfl rfl (oj_val (y_pickt (fe_t rfl) fe_c) ?_)
                  refine tl_step rfl (oj_val (y_pickt (fe_t rfl) (fe_t rfl)) ?_)
                  refine tl_step rfl (oj_val (y_assign (fe_t rfl)) ?_)
                  refine tl_nil ?_
                  refine tx_then ?_
                  refine tr_condt (fe_t rfl) ?_
                  refine tr_skip ?_
                  refine tx_then ?_
                  refine tr_condt (fe_t rfl) ?_
                  refine tr_region ?_
                  refine tl_step rfl (oj_val (y_assign fe_c) ?_)
                  refine tl_nil ?_
                  refine tx_in ?_
                  refine tx_then ?_
                  refine tr_region ?_
                  refine tl_step rfl (oj_val (y_move (fe_t rfl)) ?_)
                  refine tl_step rfl (oj_val (y_move (fe_t rfl)) ?_)
                  refine tl_step rfl (oj_slice1 Try.underlying102 Try.sizeOf26 Try.zeroValue26 (fe_t rfl) (by decide) rfl (fun b5 => ?_))
                  refine tl_step rfl (oj_append (i := 3) (s := 1) (z := (.int .i64 0)) (bytes := 8) Try.underlying102 (by kernel_rfl) (fe_t rfl) (fe_t rfl) rfl (rdl_blk 0 rfl) rfl (by decide) (by first | exact oneI | exact oneF (fun _ => rfl) | exact fun u hu => List.all_eq_true.1 (show List.all _ (fun x => x.oneCell') = true from rfl) u hu | (intro u hu; revert u hu; simp [Value.oneCell'])) (by decide) ⟨by omega, by decide⟩ (fun Aa7 ca7 hca7 => ?_))
                  refine tl_step rfl (oj_val (y_assign (fe_t rfl)) ?_)
                  refine tl_nil ?_
                  refine tx_in ?_
                  refine tx_then ?_
                  refine tr_region ?_
                  refine tl_step rfl (oj_val (y_inc (fe_t rfl) fe_c (by omega)) ?_)
                  refine tl_step rfl (oj_val (y_move (fe_t rfl)) ?_)
                  refine tl_nil ?_
                  apply tx_back7 (i + 1) ({ s with errs := s.errs ++ [3] }) (lst) ((⟨_, _, _, _⟩ : Vs)) (_) ((⟨_, _, _, _⟩ : Vs)) ((⟨_, _, _, _⟩ : Vs))
                  · exact (cov_cons (by first | rfl | exact v_int (by omega) | exact v_int (by dsimp only; omega)) (cov_cons (by first | rfl | exact v_int (by omega) | exact v_int (by dsimp only; omega)) (cov_cons (by first | rfl | exact v_int (by omega) | exact v_int (by dsimp only; omega)) (cov_cons (by first | rfl | exact v_int (by omega) | exact v_int (by dsimp only; omega)) (cov_cons (by first | rfl | exact v_int (by omega) | exact v_int (by dsimp only; omega)) (cov_nil))))))
                  · repeat (first | exact over_nil | refine over_put rfl ?_ | refine over_drop rfl ?_)
                  · exact fun w h => h.pick [2, 3, 4, 5] _ rfl (by decide)
                  · exact ⟨⟨by omega, ⟨s, hrun, .none (by show o1 os i = 1; omega) (by show o2 os i < 0 ∨ _ ≤ o2 os i; omega)⟩, rel_err hrel _, by omega, ⟨hln, hlx⟩, ⟨by simp; omega, by dsimp only; rw [hex, cI, cI, List.map_append]; rfl⟩, hsn, hsx⟩, by omega⟩
              · try (exfalso; omega)
                all_goals
                  refine tl_want rfl rfl rfl (oj_val (y_fieldAddr (td := 3) Try.underlying167 rfl rfl Try.sizeOf3 (o' := 1) rfl (fe_t rfl)) ?_)
                  refine tl_want rfl rfl rfl (oj_val (y_ldb 0 Try.isAgg3 (fe_t rfl) rfl rfl) ?_)
                  refine tl_want rfl rfl rfl (oj_val (y_move (fe_t rfl)) ?_)
                  refine tl_want rfl rfl rfl (oj_val (y_len Try.underlying31 (fe_t rfl)) ?_)
                  refine tl_want rfl rfl rfl (oj_val (y_geq (fe_t rfl) (fe_t rfl)) ?_)
                  refine tl_want rfl rfl rfl (oj_val (y_pickf (fe_t rfl) (fe_t rfl)) ?_)
                  refine tl_step rfl (oj_val (y_pickt (fe_t rfl) (fe_t rfl)) ?_)
                  refine tl_step rfl (oj_val (y_assign (fe_t rfl)) ?_)
                  refine tl_nil ?_
                  refine tx_then ?_
                  refine tr_condp (fe_t rfl) (fun hq29 => ?_) (fun hq30 => ?_)
                  · try (exfalso; omega)
                    all_goals
                      refine tr_skip ?_
                      refine tx_then ?_
                      refine tr_condp (fe_t rfl) (fun hq31 => ?_) (fun hq32 => ?_)
                      · try (exfalso; omega)
                        all_goals
                          refine tr_region ?_
                          refine tl_step rfl (oj_val (y_assign fe_c) ?_)
                          refine tl_nil ?_
                          refine tx_in ?_
                          refine tx_then ?_
                          refine tr_region ?_
                          refine tl_step rfl (oj_val (y_move (fe_t rfl)) ?_)
                          refine tl_step rfl (oj_val (y_move (fe_t rfl)) ?_)
                          refine tl_step rfl (oj_slice1 Try.underlying102 Try.sizeOf26 Try.zeroValue26 (fe_t rfl) (by decide) rfl (fun b6 => ?_))
                          refine tl_step rfl (oj_append (i := 3) (s := 1) (z := (.int .i64 0)) (bytes := 8) Try.underlying102 (by kernel_rfl) (fe_t rfl) (fe_t rfl) rfl (rdl_blk 0 rfl) rfl (by decide) (by first | exact oneI | exact oneF (fun _ => rfl) | exact fun u hu => List.all_eq_true.1 (show List.all _ (fun x => x.oneCell') = true from rfl) u hu | (intro u hu; revert u hu; simp [Value.oneCell'])) (by decide) ⟨by omega, by decide⟩ (fun Aa8 ca8 hca8 => ?_))
                          refine tl_step rfl (oj_val (y_assign (fe_t rfl)) ?_)
                          refine tl_nil ?_
                          refine tx_in ?_
                          refine tx_then ?_
                          refine tr_region ?_
                          refine tl_step rfl (oj_val (y_inc (fe_t rfl) fe_c (by omega)) ?_)
                          refine tl_step rfl (oj_val (y_move (fe_t rfl)) ?_)
                          refine tl_nil ?_
                          apply tx_back7 (i + 1) ({ s with errs := s.errs ++ [3] }) (lst) ((⟨_, _, _, _⟩ : Vs)) (_) ((⟨_, _, _, _⟩ : Vs)) ((⟨_, _, _, _⟩ : Vs))
                          · exact (cov_cons (by first | rfl | exact v_int (by omega) | exact v_int (by dsimp only; omega)) (cov_cons (by first | rfl | exact v_int (by omega) | exact v_int (by dsimp only; omega)) (cov_cons (by first | rfl | exact v_int (by omega) | exact v_int (by dsimp only; omega)) (cov_cons (by first | rfl | exact v_int (by omega) | exact v_int (by dsimp only; omega)) (cov_cons (by first | rfl | exact v_int (by omega) | exact v_int (by dsimp only; omega)) (cov_nil))))))
                          · repeat (first | exact over_nil | refine over_put rfl ?_ | refine over_drop rfl ?_)
                          · exact fun w h => h.pick [2, 3, 4, 5] _ rfl (by decide)
                          · exact ⟨⟨by omega, ⟨s, hrun, .none (by show o1 os i = 1; omega) (by show o2 os i < 0 ∨ _ ≤ o2 os i; omega)⟩, rel_err hrel _, by omega, ⟨hln, hlx⟩, ⟨by simp; omega, by dsimp only; rw [hex, cI, cI, List.map_append]; rfl⟩, hsn, hsx⟩, by omega⟩
                      · exfalso; omega
                  · try (exfalso; omega)
                    all_goals
                      refine tr_region ?_
                      refine tl_step rfl (oj_val (y_fieldAddr (td := 3) Try.underlying167 rfl rfl Try.sizeOf3 (o' := 0) rfl (fe_t rfl)) ?_)
                      refine tl_step rfl (oj_val (y_ldb 0 Try.isAgg3 (fe_t rfl) rfl rfl) ?_)
                      refine tl_step rfl (oj_val (y_eq (fe_t rfl) fe_c) ?_)
                      refine tl_step rfl (oj_val (y_move (fe_t rfl)) ?_)
                      refine tl_splitp (d := 119) rfl (fun hq33 => ?_) (fun hq34 => ?_)
                      · exfalso; omega
                      · try (exfalso; omega)
                        all_goals
                          refine tl_skip rfl rfl rfl rfl ?_
                          refine tl_skip rfl rfl rfl rfl ?_
                          refine tl_skip rfl rfl rfl rfl ?_
                          refine tl_step rfl (oj_val (y_pickf (fe_t rfl) fe_c) ?_)
                          refine tl_step rfl (oj_val (y_assign (fe_t rfl)) ?_)
                          refine tl_nil ?_
                          refine tx_then ?_
                          refine tr_condf (fe_t rfl) ?_
                          refine tr_seq ?_
                          refine tr_region ?_
                          refine tl_step rfl (oj_val (y_fieldAddr (td := 3) Try.underlying167 rfl rfl Try.sizeOf3 (o' := 0) rfl (fe_t rfl)) ?_)
                          refine tl_step rfl (oj_val (y_ldb 0 Try.isAgg3 (fe_t rfl) rfl rfl) ?_)
                          refine tl_step rfl (oj_val (y_eq (fe_t rfl) fe_c) ?_)
                          refine tl_step rfl (oj_val (y_move (fe_t rfl)) ?_)
                          refine tl_splitp (d := 128) rfl (fun hq35 => ?_) (fun hq36 => ?_)
                          · try (exfalso; omega)
                            all_goals
                              refine tl_want rfl rfl rfl (oj_val (y_fieldAddr (td := 3) Try.underlying167 rfl rfl Try.sizeOf3 (o' := 2) rfl (fe_t rfl)) ?_)
                              refine tl_want rfl rfl rfl (oj_val (y_ldb 0 Try.isAgg3 (fe_t rfl) rfl rfl) ?_)
                              refine tl_want rfl rfl rfl (oj_val (y_lss (fe_t rfl) fe_c) ?_)
                              refine tl_want rfl rfl rfl (oj_val (y_move (fe_t rfl)) ?_)
                              refine tl_splitp (d := 132) rfl (fun hq37 => ?_) (fun hq38 => ?_)
                              · try (exfalso; omega)
                                all_goals
                                  refine tl_skip rfl rfl rfl rfl ?_
                                  refine tl_skip rfl rfl rfl rfl ?_
                                  refine tl_skip rfl rfl rfl rfl ?_
                                  refine tl_want rfl rfl rfl (oj_val (y_pickt (fe_t rfl) fe_c) ?_)
                                  refine tl_step rfl (oj_val (y_pickt (fe_t rfl) (fe_t rfl)) ?_)
                                  refine tl_step rfl (oj_val (y_assign (fe_t rfl)) ?_)
                                  refine tl_nil ?_
                                  refine tx_then ?_
                                  refine tr_condt (fe_t rfl) ?_
                                  refine tr_region ?_
                                  refine tl_step rfl (oj_val (y_assign fe_c) ?_)
                                  refine tl_nil ?_
                                  refine tx_in ?_
                                  refine tx_then ?_
                                  refine tr_region ?_
                                  refine tl_step rfl (oj_val (y_move (fe_t rfl)) ?_)
                                  refine tl_step rfl (oj_val (y_move (fe_t rfl)) ?_)
                                  refine tl_step rfl (oj_slice1 Try.underlying102 Try.sizeOf26 Try.zeroValue26 (fe_t rfl) (by decide) rfl (fun b7 => ?_))
                                  refine tl_step rfl (oj_append (i := 3) (s := 1) (z := (.int .i64 0)) (bytes := 8) Try.underlying102 (by kernel_rfl) (fe_t rfl) (fe_t rfl) rfl (rdl_blk 0 rfl) rfl (by decide) (by first | exact oneI | exact oneF (fun _ => rfl) | exact fun u hu => List.all_eq_true.1 (show List.all _ (fun x => x.oneCell') = true from rfl) u hu | (intro u hu; revert u hu; simp [Value.oneCell'])) (by decide) ⟨by omega, by decide⟩ (fun Aa9 ca9 hca9 => ?_))
                                  refine tl_step rfl (oj_val (y_assign (fe_t rfl)) ?_)
                                  refine tl_nil ?_
                                  refine tx_in ?_
                                  refine tx_then ?_
                                  refine tr_region ?_
                                  refine tl_step rfl (oj_val (y_inc (fe_t rfl) fe_c (by omega)) ?_)
                                  refine tl_step rfl (oj_val (y_move (fe_t rfl)) ?_)
                                  refine tl_nil ?_
                                  apply tx_back7 (i + 1) ({ s with errs := s.errs ++ [2] }) (lst) ((⟨_, _, _, _⟩ : Vs)) (_) ((⟨_, _, _, _⟩ : Vs)) ((⟨_, _, _, _⟩ : Vs))
                                  · exact (cov_cons (by first | rfl | exact v_int (by omega) | exact v_int (by dsimp only; omega)) (cov_cons (by first | rfl | exact v_int (by omega) | exact v_int (by dsimp only; omega)) (cov_cons (by first | rfl | exact v_int (by omega) | exact v_int (by dsimp only; omega)) (cov_cons (by first | rfl | exact v_int (by omega) | exact v_int (by dsimp only; omega)) (cov_cons (by first | rfl | exact v_int (by omega) | exact v_int (by dsimp only; omega)) (cov_nil))))))
                                  · repeat (first | exact over_nil | refine over_put rfl ?_ | refine over_drop rfl ?_)
                                  · exact fun w h => h.pick [2, 3, 4, 5] _ rfl (by decide)
                                  · exact ⟨⟨by omega, ⟨s, hrun, .range (by show o1 os i = 1; omega) (by show 0 ≤ o2 os i ∧ o2 os i < _; omega) (by show o3 os i < 1 ∨ 1500 < o3 os i; omega)⟩, rel_err hrel _, by omega, ⟨hln, hlx⟩, ⟨by simp; omega, by dsimp only; rw [hex, cI, cI, List.map_append]; rfl⟩, hsn, hsx⟩, by omega⟩
                              · try (exfalso; omega)
                                all_goals
                                  refine tl_want rfl rfl rfl (oj_val (y_fieldAddr (td := 3) Try.underlying167 rfl rfl Try.sizeOf3 (o' := 2) rfl (fe_t rfl)) ?_)
                                  refine tl_want rfl rfl rfl (oj_val (y_ldb 0 Try.isAgg3 (fe_t rfl) rfl rfl) ?_)
                                  refine tl_want rfl rfl rfl (oj_val (y_gtr (fe_t rfl) fe_c) ?_)
                                  refine tl_want rfl rfl rfl (oj_val (y_pickf (fe_t rfl) (fe_t rfl)) ?_)
                                  refine tl_step rfl (oj_val (y_pickt (fe_t rfl) (fe_t rfl)) ?_)
                                  refine tl_step rfl (oj_val (y_assign (fe_t rfl)) ?_)
                                  refine tl_nil ?_
                                  refine tx_then ?_
                                  refine tr_condp (fe_t rfl) (fun hq39 => ?_) (fun hq40 => ?_)
                                  · try (exfalso; omega)
                                    all_goals
                                      refine tr_region ?_
                                      refine tl_step rfl (oj_val (y_assign fe_c) ?_)
                                      refine tl_nil ?_
                                      refine tx_in ?_
                                      refine tx_then ?_
                                      refine tr_region ?_
                                      refine tl_step rfl (oj_val (y_move (fe_t rfl)) ?_)
                                      refine tl_step rfl (oj_val (y_move (fe_t rfl)) ?_)
                                      refine tl_step rfl (oj_slice1 Try.underlying102 Try.sizeOf26 Try.zeroValue26 (fe_t rfl) (by decide) rfl (fun b8 => ?_))
                                      refine tl_step rfl (oj_append (i := 3) (s := 1) (z := (.int .i64 0)) (bytes := 8) Try.underlying102 (by kernel_rfl) (fe_t rfl) (fe_t rfl) rfl (rdl_blk 0 rfl) rfl (by decide) (by first | exact oneI | exact oneF (fun _ => rfl) | exact fun u hu => List.all_eq_true.1 (show List.all _ (fun x => x.oneCell') = true from rfl) u hu | (intro u hu; revert u hu; simp [Value.oneCell'])) (by decide) ⟨by omega, by decide⟩ (fun Aa10 ca10 hca10 => ?_))
                                      refine tl_step rfl (oj_val (y_assign (fe_t rfl)) ?_)
                                      refine tl_nil ?_
                                      refine tx_in ?_
                                      refine tx_then ?_
                                      refine tr_region ?_
                                      refine tl_step rfl (oj_val (y_inc (fe_t rfl) fe_c (by omega)) ?_)
                                      refine tl_step rfl (oj_val (y_move (fe_t rfl)) ?_)
                                      refine tl_nil ?_
                                      apply tx_back7 (i + 1) ({ s with errs := s.errs ++ [2] }) (lst) ((⟨_, _, _, _⟩ : Vs)) (_) ((⟨_, _, _, _⟩ : Vs)) ((⟨_, _, _, _⟩ : Vs))
                                      · exact (cov_cons (by first | rfl | exact v_int (by omega) | exact v_int (by dsimp only; omega)) (cov_cons (by first | rfl | exact v_int (by omega) | exact v_int (by dsimp only; omega)) (cov_cons (by first | rfl | exact v_int (by omega) | exact v_int (by dsimp only; omega)) (cov_cons (by first | rfl | exact v_int (by omega) | exact v_int (by dsimp only; omega)) (cov_cons (by first | rfl | exact v_int (by omega) | exact v_int (by dsimp only; omega)) (cov_nil))))))
                                      · repeat (first | exact over_nil | refine over_put rfl ?_ | refine over_drop rfl ?_)
                                      · exact fun w h => h.pick [2, 3, 4, 5] _ rfl (by decide)
                                      · exact ⟨⟨by omega, ⟨s, hrun, .range (by show o1 os i = 1; omega) (by show 0 ≤ o2 os i ∧ o2 os i < _; omega) (by show o3 os i < 1 ∨ 1500 < o3 os i; omega)⟩, rel_err hrel _, by omega, ⟨hln, hlx⟩, ⟨by simp; omega, by dsimp only; rw [hex, cI, cI, List.map_append]; rfl⟩, hsn, hsx⟩, by omega⟩
                                  · try (exfalso; omega)
                                    all_goals
                                      refine tr_seq ?_
                                      refine tr_region ?_
                                      refine tl_step rfl (oj_val (y_fieldAddr (td := 3) Try.underlying167 rfl rfl Try.sizeOf3 (o' := 0) rfl (fe_t rfl)) ?_)
                                      refine tl_step rfl (oj_val (y_ldb 0 Try.isAgg3 (fe_t rfl) rfl rfl) ?_)
                                      refine tl_step rfl (oj_val (y_eq (fe_t rfl) fe_c) ?_)
                                      refine tl_step rfl (oj_val (y_assign (fe_t rfl)) ?_)
                                      refine tl_nil ?_
                                      refine tx_then ?_
                                      refine tr_condp (fe_t rfl) (fun hq41 => ?_) (fun hq42 => ?_)
                                      · try (exfalso; omega)
                                        all_goals
                                          refine tr_seq ?_
                                          refine tr_region ?_
                                          refine tl_step rfl (oj_val (y_move (fe_t rfl)) ?_)
                                          refine tl_step rfl (oj_val (y_assign (fe_t rfl)) ?_)
                                          refine tl_nil ?_
                                          refine tx_then ?_
                                          refine tr_seq ?_
                                          refine tr_seq ?_
                                          obtain ⟨k, hk⟩ : ∃ k : Nat, o2 os i = k := ⟨(o2 os i).toNat, by omega⟩
                                          have hkn : k < n := by omega
                                          have hwl := hwf.last k
                                          have hlk : (mget mp (o2 os i)).getD (.int .i64 0) = (.int .i64 ((fq s k).last)) := by rw [hk]; exact hrel.last k hkn
                                          obtain ⟨q1, q2, q3⟩ := w_quo (hgw k hkn)
                                          have q3 := q3 (o3 os i)
                                          have hp1 : 1 * 2310 ≤ o3 os i * (27720 / ws.getD k 0) := Int.mul_le_mul (by omega) q1 (by omega) (by omega)
                                          have hp2 : o3 os i * (27720 / ws.getD k 0) ≤ 1500 * 27720 := Int.mul_le_mul (by omega) q2 (by omega) (by omega)
                                          refine tr_region ?_
                                          refine tl_step rfl (oj_val (y_move (fe_t rfl)) ?_)
                                          refine tl_step rfl (oj_val (y_fieldAddr (td := 3) Try.underlying167 rfl rfl Try.sizeOf3 (o' := 1) rfl (fe_t rfl)) ?_)
                                          refine tl_step rfl (oj_val (y_ldb 0 Try.isAgg3 (fe_t rfl) rfl rfl) ?_)
                                          refine tl_step rfl (oj_val (y_eqv (y_lookup 4 Try.underlying172 Try.underlying3 Try.zeroValue3 (fe_t rfl) (fe_t rfl) rfl) hlk) ?_)
                                          refine tl_step rfl (oj_val (y_move (fe_t rfl)) ?_)
                                          refine tl_step rfl (oj_val (y_gtr (fe_t rfl) (fe_t rfl)) ?_)
                                          refine tl_nil ?_
                                          refine tx_then ?_
                                          refine tr_condp (fe_t rfl) (fun hq43 => ?_) (fun hq44 => ?_)
                                          · try (exfalso; omega)
                                            all_goals
                                              refine tr_region ?_
                                              refine tl_step rfl (oj_val (y_move (fe_t rfl)) ?_)
                                              refine tl_step rfl (oj_val (y_fieldAddr (td := 3) Try.underlying167 rfl rfl Try.sizeOf3 (o' := 1) rfl (fe_t rfl)) ?_)
                                              refine tl_step rfl (oj_val (y_ldb 0 Try.isAgg3 (fe_t rfl) rfl rfl) ?_)
                                              refine tl_step rfl (oj_val (y_eqv (y_lookup 4 Try.underlying172 Try.underlying3 Try.zeroValue3 (fe_t rfl) (fe_t rfl) rfl) hlk) ?_)
                                              refine tl_step rfl (oj_val (y_assign (fe_t rfl)) ?_)
                                              refine tl_nil ?_
                                              refine tx_then ?_
                                              refine tr_seq ?_
                                              refine tb_draw 14 (sel _ [0, 1, 2, 3]) (fun w h => h.sel _ rfl (by decide)) rfl ?_
                                              refine tb_float (i := 0) rfl (by kernel_rfl) rfl (wants_none rfl) (yq_of (y_move (fe_t rfl))) ?_
                                              refine tb_float (i := 1) rfl (by kernel_rfl) rfl (wants_none rfl) (yq_of (y_fieldAddr (td := 3) Try.underlying167 rfl rfl Try.sizeOf3 (o' := 1) rfl (fe_t rfl))) ?_
                                              refine tb_float (i := 2) rfl (by kernel_rfl) rfl (wants_none rfl) (yq_of (y_ldb 0 Try.isAgg3 (fe_t rfl) rfl rfl)) ?_
                                              refine tb_float (i := 3) rfl (by kernel_rfl) rfl (wants_none rfl) (yq_of (y_move (fe_t rfl))) ?_
                                              refine tb_float (i := 4) rfl (by kernel_rfl) rfl (wants_none rfl) (yq_of (y_fieldAddr (td := 3) Try.underlying167 rfl rfl Try.sizeOf3 (o' := 2) rfl (fe_t rfl))) ?_
                                              refine tb_float (i := 5) rfl (by kernel_rfl) rfl (wants_none rfl) (yq_of (y_ldb 0 Try.isAgg3 (fe_t rfl) rfl rfl)) ?_
                                              refine tb_float (i := 6) rfl (by kernel_rfl) rfl (wants_none rfl) (yq_of (y_mul fe_c (fe_t rfl) (by omega))) ?_
                                              refine tb_float (i := 7) rfl (by kernel_rfl) rfl (wants_none rfl) (yq_of (y_move (fe_t rfl))) ?_
                                              refine tb_float (i := 8) rfl (by kernel_rfl) rfl (wants_none rfl) (yq_of (y_fieldAddr (td := 3) Try.underlying167 rfl rfl Try.sizeOf3 (o' := 1) rfl (fe_t rfl))) ?_
                                              refine tb_float (i := 9) rfl (by kernel_rfl) rfl (wants_none rfl) (yq_of (y_ldb 0 Try.isAgg3 (fe_t rfl) rfl rfl)) ?_
                                              refine tb_float (i := 10) rfl (by kernel_rfl) rfl (wants_none rfl) (yq_of (y_index Try.underlying31 Try.sizeOf3 (fe_t rfl) (fe_i hk rfl) (rdl_out hr) (by simp; omega) (by decide) (by omega) (Nat.mul_one _))) ?_
                                              refine tb_float (i := 11) rfl (by kernel_rfl) rfl (wants_none rfl) (yq_of (y_ld Try.isAgg3 (fe_t rfl) (rdl_out hr) (getW (by omega)))) ?_
                                              refine tb_float (i := 12) rfl (by kernel_rfl) rfl (wants_none rfl) (yq_of (y_quo (fe_t rfl) (fe_t rfl) (by have := hgw k hkn; omega))) ?_
                                              refine tb_float (i := 13) rfl (by kernel_rfl) rfl (wants_none rfl) (yq_of (y_as (b := (max (fq s k).last s.now + o3 os i * (27720 / ws.getD k 0))) (y_add (fe_t rfl) (fe_t rfl) (by omega)) (by omega))) ?_
                                              refine tb_one2 (i := 14) rfl (by kernel_rfl) (by kernel_rfl) (wants_none rfl) (oj_mapPut 4 Try.underlying172 Try.underlying3 (fe_t rfl) (fe_t rfl) (fe_t rfl) rfl (.inl rfl) (⟨fun w h => h.pick [0, 1, 2, 3] _ rfl (by decide), ?_⟩))
                                              refine tb_done (by kernel_rfl) ?_
                                              refine tx_then ?_
                                              refine tr_region ?_
                                              refine tl_step rfl (oj_val (y_move (fe_t rfl)) ?_)
                                              refine tl_step rfl (oj_val (y_fieldAddr (td := 3) Try.underlying167 rfl rfl Try.sizeOf3 (o' := 1) rfl (fe_t rfl)) ?_)
                                              refine tl_step rfl (oj_val (y_ldb 0 Try.isAgg3 (fe_t rfl) rfl rfl) ?_)
                                              refine tl_step rfl (oj_val (y_fieldAddr (td := 3) Try.underlying167 rfl rfl Try.sizeOf3 (o' := 2) rfl (fe_t rfl)) ?_)
                                              refine tl_step rfl (oj_val (y_ldb 0 Try.isAgg3 (fe_t rfl) rfl rfl) ?_)
                                              refine tl_step rfl (oj_val (y_move (fe_t rfl)) ?_)
                                              refine tl_step rfl (oj_val (y_fieldAddr (td := 3) Try.underlying167 rfl rfl Try.sizeOf3 (o' := 1) rfl (fe_t rfl)) ?_)
                                              refine tl_step rfl (oj_val (y_ldb 0 Try.isAgg3 (fe_t rfl) rfl rfl) ?_)
                                              refine tl_step rfl (oj_val (y_eqv (u := (.int .i64 _)) (y_lookup 4 Try.underlying172 Try.underlying3 Try.zeroValue3 (fe_t rfl) (fe_t rfl) rfl) (by rw [mput_get, if_pos rfl]; rfl)) ?_)
                                              refine tl_step rfl (oj_val ((fun {u0 u1 u2} hx hb => y_build (is := [0, 1, 2]) (vs := [u0, u1, u2]) (cs := [u0, u1, u2]) rfl hx hb) (fel_cons (fe_t rfl) (fel_cons (fe_t rfl) (fel_cons (fe_t rfl) fel_nil))) (by kernel_rfl)) ?_)
                                              refine tl_step rfl (oj_slice1 Try.underlying171 Try.sizeOf174 Try.zeroValue174 (fe_t rfl) (by decide) rfl (fun b9 => ?_))
                                              refine tl_step rfl (oj_append (i := 4) (s := 3) (z := (.agg #[.int .i64 0, .int .i64 0, .int .i64 0])) (bytes := 24) Try.underlying171 (by kernel_rfl) (fe_t rfl) (fe_t rfl) rfl (rdl_blk 0 rfl) rfl (by decide) (by first | exact oneI | exact oneF (fun _ => rfl) | exact fun u hu => List.all_eq_true.1 (show List.all _ (fun x => x.oneCell') = true from rfl) u hu | (intro u hu; revert u hu; simp [Value.oneCell'])) (by decide) ⟨by omega, by decide⟩ (fun Aa11 ca11 hca11 => ?_))
                                              refine tl_step rfl (oj_val (y_assign (fe_t rfl)) ?_)
                                              refine tl_nil ?_
                                              refine tx_in ?_
                                              refine tx_then ?_
                                              refine tr_region ?_
                                              refine tl_step rfl (oj_val (y_move (fe_t rfl)) ?_)
                                              refine tl_step rfl (oj_val (y_move (fe_t rfl)) ?_)
                                              refine tl_step rfl (oj_slice1 Try.underlying102 Try.sizeOf26 Try.zeroValue26 (fe_t rfl) (by decide) rfl (fun b10 => ?_))
                                              refine tl_step rfl (oj_append (i := 4) (s := 1) (z := (.int .i64 0)) (bytes := 8) Try.underlying102 (by kernel_rfl) (fe_t rfl) (fe_t rfl) rfl (rdl_blk 0 rfl) rfl (by decide) (by first | exact oneI | exact oneF (fun _ => rfl) | exact fun u hu => List.all_eq_true.1 (show List.all _ (fun x => x.oneCell') = true from rfl) u hu | (intro u hu; revert u hu; simp [Value.oneCell'])) (by decide) ⟨by omega, by decide⟩ (fun Aa12 ca12 hca12 => ?_))
                                              refine tl_step rfl (oj_val (y_assign (fe_t rfl)) ?_)
                                              refine tl_nil ?_
                                              refine tx_in ?_
                                              refine tx_then ?_
                                              refine tr_region ?_
                                              refine tl_step rfl (oj_val (y_inc (fe_t rfl) fe_c (by omega)) ?_)
                                              refine tl_step rfl (oj_val (y_move (fe_t rfl)) ?_)
                                              refine tl_nil ?_
                                              apply tx_back7 (i + 1) ({ s with errs := s.errs ++ [0], fs := s.fs.set k ⟨(fq s k).bs ++ [o3 os i], (fq s k).ts ++ [max (fq s k).last s.now + o3 os i * (27720 / ws.getD k 0)], max (fq s k).last s.now + o3 os i * (27720 / ws.getD k 0)⟩ }) (lst ++ [((k : Int), o3 os i, (max (fq s k).last s.now + o3 os i * (27720 / ws.getD k 0)))]) ((⟨_, _, _, _⟩ : Vs)) (_) ((⟨_, _, _, _⟩ : Vs)) ((⟨_, _, _, _⟩ : Vs))
                                              · exact (cov_cons (by first | rfl | exact v_int (by omega) | exact v_int (by dsimp only; omega)) (cov_cons (by first | rfl | exact v_int (by omega) | exact v_int (by dsimp only; omega)) (cov_cons (by first | rfl | exact v_int (by omega) | exact v_int (by dsimp only; omega)) (cov_cons (by first | rfl | exact v_int (by omega) | exact v_int (by dsimp only; omega)) (cov_cons (by first | rfl | exact v_int (by omega) | exact v_int (by dsimp only; omega)) (cov_nil))))))
                                              · repeat (first | exact over_nil | refine over_put rfl ?_ | refine over_drop rfl ?_)
                                              · exact fun w h => h.pick [3, 4, 5, 6] _ rfl (by decide)
                                              · exact ⟨⟨by omega, ⟨s, hrun, .inn k (by show o1 os i = 1; omega) (by show o2 os i = k; omega) hkn (by show 1 ≤ o3 os i ∧ o3 os i ≤ 1500; omega)⟩, by rw [hk]; exact rel_in hrel hwf hkn _ _ _ _ _, by simp; omega, ⟨by simp; omega, by dsimp only; rw [hlx, List.flatMap_append, hk]; first | rfl | (simp [c3, zc]; done)⟩, ⟨by simp; omega, by dsimp only; rw [hex, cI, cI, List.map_append]; rfl⟩, hsn, hsx⟩, by omega⟩
                                          · try (exfalso; omega)
                                            all_goals
                                              refine tr_skip ?_
                                              refine tx_then ?_
                                              refine tr_seq ?_
                                              refine tb_draw 14 (sel _ [0, 1, 2, 3]) (fun w h => h.sel _ rfl (by decide)) rfl ?_
                                              refine tb_float (i := 0) rfl (by kernel_rfl) rfl (wants_none rfl) (yq_of (y_move (fe_t rfl))) ?_
                                              refine tb_float (i := 1) rfl (by kernel_rfl) rfl (wants_none rfl) (yq_of (y_fieldAddr (td := 3) Try.underlying167 rfl rfl Try.sizeOf3 (o' := 1) rfl (fe_t rfl))) ?_
                                              refine tb_float (i := 2) rfl (by kernel_rfl) rfl (wants_none rfl) (yq_of (y_ldb 0 Try.isAgg3 (fe_t rfl) rfl rfl)) ?_
                                              refine tb_float (i := 3) rfl (by kernel_rfl) rfl (wants_none rfl) (yq_of (y_move (fe_t rfl))) ?_
                                              refine tb_float (i := 4) rfl (by kernel_rfl) rfl (wants_none rfl) (yq_of (y_fieldAddr (td := 3) Try.underlying167 rfl rfl Try.sizeOf3 (o' := 2) rfl (fe_t rfl))) ?_
                                              refine tb_float (i := 5) rfl (by kernel_rfl) rfl (wants_none rfl) (yq_of (y_ldb 0 Try.isAgg3 (fe_t rfl) rfl rfl)) ?_
                                              refine tb_float (i := 6) rfl (by kernel_rfl) rfl (wants_none rfl) (yq_of (y_mul fe_c (fe_t rfl) (by omega))) ?_
                                              refine tb_float (i := 7) rfl (by kernel_rfl) rfl (wants_none rfl) (yq_of (y_move (fe_t rfl))) ?_
                                              refine tb_float (i := 8) rfl (by kernel_rfl) rfl (wants_none rfl) (yq_of (y_fieldAddr (td := 3) Try.underlying167 rfl rfl Try.sizeOf3 (o' := 1) rfl (fe_t rfl))) ?_
                                              refine tb_float (i := 9) rfl (by kernel_rfl) rfl (wants_none rfl) (yq_of (y_ldb 0 Try.isAgg3 (fe_t rfl) rfl rfl)) ?_
                                              refine tb_float (i := 10) rfl (by kernel_rfl) rfl (wants_none rfl) (yq_of (y_index Try.underlying31 Try.sizeOf3 (fe_t rfl) (fe_i hk rfl) (rdl_out hr) (by simp; omega) (by decide) (by omega) (Nat.mul_one _))) ?_
                                              refine tb_float (i := 11) rfl (by kernel_rfl) rfl (wants_none rfl) (yq_of (y_ld Try.isAgg3 (fe_t rfl) (rdl_out hr) (getW (by omega)))) ?_
                                              refine tb_float (i := 12) rfl (by kernel_rfl) rfl (wants_none rfl) (yq_of (y_quo (fe_t rfl) (fe_t rfl) (by have := hgw k hkn; omega))) ?_
                                              refine tb_float (i := 13) rfl (by kernel_rfl) rfl (wants_none rfl) (yq_of (y_as (b := (max (fq s k).last s.now + o3 os i * (27720 / ws.getD k 0))) (y_add (fe_t rfl) (fe_t rfl) (by omega)) (by omega))) ?_
                                              refine tb_one2 (i := 14) rfl (by kernel_rfl) (by kernel_rfl) (wants_none rfl) (oj_mapPut 4 Try.underlying172 Try.underlying3 (fe_t rfl) (fe_t rfl) (fe_t rfl) rfl (.inl rfl) (⟨fun w h => h.pick [0, 1, 2, 3] _ rfl (by decide), ?_⟩))
                                              refine tb_done (by kernel_rfl) ?_
                                              refine tx_then ?_
                                              refine tr_region ?_
                                              refine tl_step rfl (oj_val (y_move (fe_t rfl)) ?_)
                                              refine tl_step rfl (oj_val (y_fieldAddr (td := 3) Try.underlying167 rfl rfl Try.sizeOf3 (o' := 1) rfl (fe_t rfl)) ?_)
                                              refine tl_step rfl (oj_val (y_ldb 0 Try.isAgg3 (fe_t rfl) rfl rfl) ?_)
                                              refine tl_step rfl (oj_val (y_fieldAddr (td := 3) Try.underlying167 rfl rfl Try.sizeOf3 (o' := 2) rfl (fe_t rfl)) ?_)
                                              refine tl_step rfl (oj_val (y_ldb 0 Try.isAgg3 (fe_t rfl) rfl rfl) ?_)
                                              refine tl_step rfl (oj_val (y_move (fe_t rfl)) ?_)
                                              refine tl_step rfl (oj_val (y_fieldAddr (td := 3) Try.underlying167 rfl rfl Try.sizeOf3 (o' := 1) rfl (fe_t rfl)) ?_)
                                              refine tl_step rfl (oj_val (y_ldb 0 Try.isAgg3 (fe_t rfl) rfl rfl) ?_)
                                              refine tl_step rfl (oj_val (y_eqv (u := (.int .i64 _)) (y_lookup 4 Try.underlying172 Try.underlying3 Try.zeroValue3 (fe_t rfl) (fe_t rfl) rfl) (by rw [mput_get, if_pos rfl]; rfl)) ?_)
                                              refine tl_step rfl (oj_val ((fun {u0 u1 u2} hx hb => y_build (is := [0, 1, 2]) (vs := [u0, u1, u2]) (cs := [u0, u1, u2]) rfl hx hb) (fel_cons (fe_t rfl) (fel_cons (fe_t rfl) (fel_cons (fe_t rfl) fel_nil))) (by kernel_rfl)) ?_)
                                              refine tl_step rfl (oj_slice1 Try.underlying171 Try.sizeOf174 Try.zeroValue174 (fe_t rfl) (by decide) rfl (fun b11 => ?_))
                                              refine tl_step rfl (oj_append (i := 4) (s := 3) (z := (.agg #[.int .i64 0, .int .i64 0, .int .i64 0])) (bytes := 24) Try.underlying171 (by kernel_rfl) (fe_t rfl) (fe_t rfl) rfl (rdl_blk 0 rfl) rfl (by decide) (by first | exact oneI | exact oneF (fun _ => rfl) | exact fun u hu => List.all_eq_true.1 (show List.all _ (fun x => x.oneCell') = true from rfl) u hu | (intro u hu; revert u hu; simp [Value.oneCell'])) (by decide) ⟨by omega, by decide⟩ (fun Aa13 ca13 hca13 => ?_))
                                              refine tl_step rfl (oj_val (y_assign (fe_t rfl)) ?_)
                                              refine tl_nil ?_
                                              refine tx_in ?_
                                              refine tx_then ?_
                                              refine tr_region ?_
                                              refine tl_step rfl (oj_val (y_move (fe_t rfl)) ?_)
                                              refine tl_step rfl (oj_val (y_move (fe_t rfl)) ?_)
                                              refine tl_step rfl (oj_slice1 Try.underlying102 Try.sizeOf26 Try.zeroValue26 (fe_t rfl) (by decide) rfl (fun b12 => ?_))
                                              refine tl_step rfl (oj_append (i := 4) (s := 1) (z := (.int .i64 0)) (bytes := 8) Try.underlying102 (by kernel_rfl) (fe_t rfl) (fe_t rfl) rfl (rdl_blk 0 rfl) rfl (by decide) (by first | exact oneI | exact oneF (fun _ => rfl) | exact fun u hu => List.all_eq_true.1 (show List.all _ (fun x => x.oneCell') = true from rfl) u hu | (intro u hu; revert u hu; simp [Value.oneCell'])) (by decide) ⟨by omega, by decide⟩ (fun Aa14 ca14 hca14 => ?_))
                                              refine tl_step rfl (oj_val (y_assign (fe_t rfl)) ?_)
                                              refine tl_nil ?_
                                              refine tx_in ?_
                                              refine tx_then ?_
                                              refine tr_region ?_
                                              refine tl_step rfl (oj_val (y_inc (fe_t rfl) fe_c (by omega)) ?_)
                                              refine tl_step rfl (oj_val (y_move (fe_t rfl)) ?_)
                                              refine tl_nil ?_
                                              apply tx_back7 (i + 1) ({ s with errs := s.errs ++ [0], fs := s.fs.set k ⟨(fq s k).bs ++ [o3 os i], (fq s k).ts ++ [max (fq s k).last s.now + o3 os i * (27720 / ws.getD k 0)], max (fq s k).last s.now + o3 os i * (27720 / ws.getD k 0)⟩ }) (lst ++ [((k : Int), o3 os i, (max (fq s k).last s.now + o3 os i * (27720 / ws.getD k 0)))]) ((⟨_, _, _, _⟩ : Vs)) (_) ((⟨_, _, _, _⟩ : Vs)) ((⟨_, _, _, _⟩ : Vs))
                                              · exact (cov_cons (by first | rfl | exact v_int (by omega) | exact v_int (by dsimp only; omega)) (cov_cons (by first | rfl | exact v_int (by omega) | exact v_int (by dsimp only; omega)) (cov_cons (by first | rfl | exact v_int (by omega) | exact v_int (by dsimp only; omega)) (cov_cons (by first | rfl | exact v_int (by omega) | exact v_int (by dsimp only; omega)) (cov_cons (by first | rfl | exact v_int (by omega) | exact v_int (by dsimp only; omega)) (cov_nil))))))
                                              · repeat (first | exact over_nil | refine over_put rfl ?_ | refine over_drop rfl ?_)
                                              · exact fun w h => h.pick [3, 4, 5, 6] _ rfl (by decide)
                                              · exact ⟨⟨by omega, ⟨s, hrun, .inn k (by show o1 os i = 1; omega) (by show o2 os i = k; omega) hkn (by show 1 ≤ o3 os i ∧ o3 os i ≤ 1500; omega)⟩, by rw [hk]; exact rel_in hrel hwf hkn _ _ _ _ _, by simp; omega, ⟨by simp; omega, by dsimp only; rw [hlx, List.flatMap_append, hk]; first | rfl | (simp [c3, zc]; done)⟩, ⟨by simp; omega, by dsimp only; rw [hex, cI, cI, List.map_append]; rfl⟩, hsn, hsx⟩, by omega⟩
                                      · exfalso; omega
                          · exfalso; omega
          · exfalso; omega
  · try (exfalso; omega)
    all_goals
      refine tr_exit ?_
      refine tx_then_exit ?_
      refine tx_then_exit ?_
      refine tx_in_exit ?_
      refine tx_then ?_
      refine tr_seq ?_
      refine tr_region ?_
      refine tl_step rfl (oj_val (y_move (fe_t rfl)) ?_)
      refine tl_step rfl (oj_val (y_len Try.underlying31 (fe_t rfl)) ?_)
      refine tl_step rfl (oj_make (n := n) (z := (.int .i64 0)) (bytes := 8) Try.underlying31 (by kernel_rfl) (fe_t rfl) (fe_t rfl) rfl ⟨by omega, by decide⟩ (fun gz => ?_))
      refine tl_step rfl (oj_val (y_assign (fe_t rfl)) ?_)
      refine tl_nil ?_
      refine tx_then ?_
      refine tr_seq ?_
      refine tr_seq ?_
      refine tr_region ?_
      refine tl_step rfl (oj_val (y_move (fe_t rfl)) ?_)
      refine tl_step rfl (oj_val (y_len Try.underlying171 (fe_t rfl)) ?_)
      refine tl_step rfl (oj_val (y_move fe_c) ?_)
      refine tl_nil ?_
      refine tx_then ?_
      refine tr_block ?_
      refine tr_loop2 [22, 189, 190, 191, 192, 193, 194, 195, 196, 197, 198, 199, 200] (fun (k : Nat) (zx : List Value) => [(189, .int .i64 (k : Int))]) 0 (fun (k : Nat) (zx : List Value) => [(0, vec 3 1 (.slice (some ⟨gz, 0, none⟩) n n) n zx)]) (fun (k : Nat) (zx : List Value) => k ≤ v1.n ∧ zx = cI (cnts lst n k)) (fun (k : Nat) (zx : List Value) => v1.n - k) (0) (_) (cov_cons (by first | rfl | exact v_int (by omega) | exact v_int (by dsimp only; omega)) (cov_nil)) (fun w h => h) ?_ ?_
      · try dsimp only
        exact ⟨by omega, by rw [cnts_zero]; simp [cI]⟩
      intro k zx hp
      obtain ⟨hk, hzx⟩ := hp
      refine tr_seq ?_
      refine tr_region ?_
      refine tl_step rfl (oj_val (y_lss (fe_t rfl) (fe_t rfl)) ?_)
      refine tl_nil ?_
      refine tx_then ?_
      refine tr_seq ?_
      refine tr_condp (fe_t rfl) (fun hq45 => ?_) (fun hq46 => ?_)
      · try (exfalso; omega)
        all_goals
          refine tr_skip ?_
          refine tx_then ?_
          refine tr_seq ?_
          refine tr_block ?_
          refine tr_seq ?_
          refine tr_region ?_
          refine tl_step rfl (oj_val (y_index Try.underlying171 Try.sizeOf174 (fe_t rfl) (fe_t rfl) (rdl_vec 3 rfl) (by (try rw [hlx]); rw [flat_len hc3]; omega) (by decide) (by omega) rfl) ?_)
          refine tl_step rfl (oj_val (y_ldA (cs := [(.int .i64 (o1 lst k)), (.int .i64 (o2 lst k)), (.int .i64 (o3 lst k))]) Try.isAgg174 Try.sizeOf174 (fe_t rfl) (rdl_vec 3 rfl) rfl (by decide) (by rw [hlx]; exact getO (by omega))) ?_)
          refine tl_step rfl (oj_alloc Try.zeroValue174 (fun by_ => ?_))
          refine tl_step rfl (oj_storeW 0 Try.sizeOf174 (fe_t rfl) (fe_t rfl) rfl rfl rfl rfl rfl (?_))
          refine tl_nil ?_
          refine tx_then ?_
          have hfl := hrel.fl _ (List.getElem_mem (show k < lst.length by omega))
          rw [o_at (show k < lst.length by omega)] at hfl
          simp only at hfl
          obtain ⟨f, hf⟩ : ∃ f : Nat, o1 lst k = f := ⟨(o1 lst k).toNat, by omega⟩
          have hfn : f < n := by omega
          have hcl := cnts_le (lst := lst) (k := k) hfn
          refine tr_region ?_
          refine tl_step rfl (oj_val (y_move (fe_t rfl)) ?_)
          refine tl_step rfl (oj_val (y_fieldAddr (td := 3) Try.underlying174 rfl rfl Try.sizeOf3 (o' := 0) rfl (fe_t rfl)) ?_)
          refine tl_step rfl (oj_val (y_ldb 0 Try.isAgg3 (fe_t rfl) rfl rfl) ?_)
          refine tl_step rfl (oj_val (y_index Try.underlying31 Try.sizeOf3 (fe_t rfl) (fe_i hf rfl) (rdl_vec 1 rfl) (by rw [hzx, cI, List.length_map, cnts_len]; omega) (by decide) hfn (Nat.mul_one _)) ?_)
          refine tl_step rfl (oj_val (y_ld (v := (.int .i64 ((cnts lst n k).getD f 0))) Try.isAgg3 (fe_t rfl) (rdl_vec 1 rfl) (by rw [hzx]; exact getW (by rw [cnts_len]; omega))) ?_)
          refine tl_step rfl (oj_val (y_add (fe_t rfl) fe_c (by omega)) ?_)
          refine tl_step rfl (oj_val (y_index Try.underlying31 Try.sizeOf3 (fe_t rfl) (fe_i hf rfl) (rdl_vec 1 rfl) (by rw [hzx, cI, List.length_map, cnts_len]; omega) (by decide) hfn (Nat.mul_one _)) ?_)
          refine tl_step rfl (oj_storeE1 (i := 1) Try.sizeOf3 (fe_t rfl) (fe_t rfl) rfl rfl rfl (by omega) (?_))
          refine tl_nil ?_
          refine tx_in ?_
          refine tx_then ?_
          refine tr_region ?_
          refine tl_step rfl (oj_val (y_inc (fe_t rfl) fe_c (by omega)) ?_)
          refine tl_step rfl (oj_val (y_move (fe_t rfl)) ?_)
          refine tl_nil ?_
          apply tx_back2 (k + 1) (_)
          · exact (cov_cons (by first | rfl | exact v_int (by omega) | exact v_int (by dsimp only; omega)) (cov_nil))
          · repeat (first | exact over_nil | refine over_put rfl ?_ | refine over_drop rfl ?_)
          · exact fun w h => h.pick [1, 2, 3, 4, 5] _ rfl (by decide)
          · exact ⟨⟨by omega, by rw [hzx, ← cnts_step (by omega) hf hfn, cI, cI, List.map_set]⟩, by omega⟩
      · try (exfalso; omega)
        all_goals
          refine tr_exit ?_
          refine tx_then_exit ?_
          refine tx_then_exit ?_
          refine tx_in_exit ?_
          refine tx_then ?_
          refine tr_seq ?_
          refine tr_region ?_
          refine tl_step rfl (oj_val (y_move (fe_t rfl)) ?_)
          refine tl_step rfl (oj_val (y_move (fe_t rfl)) ?_)
          refine tl_step rfl (oj_val (y_move (fe_t rfl)) ?_)
          refine tl_step rfl (oj_val (y_assign (fe_t rfl)) ?_)
          refine tl_step rfl (oj_val (y_assign (fe_t rfl)) ?_)
          refine tl_step rfl (oj_val (y_assign (fe_t rfl)) ?_)
          refine tl_nil ?_
          refine tx_then ?_
          refine tr_ret ?_
          refine tx_ret (res3 Try.results58 (rok_t rfl) (rok_t rfl) (rok_t rfl)) (fun w' hS => ?_)
          obtain rfl : k = v1.n := by omega
          obtain rfl : m = i := by omega
          exact ⟨(s, e1, s1, ⟨_, n, _, zx⟩), ⟨hrun, ⟨hen, hex⟩, ⟨hsn, hsx⟩, rfl, by rw [hzx, hln, cnts_end hrel hwf]⟩, rfl, hS.pick [2, 1, 0] _ rfl (by decide)⟩

end Go.Proofs.Ytdfjeoifeladfaa.Scfq
