/- scfq.Play. -/
import Derived.Test.YtdfjeoifeladfaaScA
namespace Go.Proofs.Ytdfjeoifeladfaa.Scfq
open Go.RowKit Go.Proofs.Ytdfjeoifeladfaa.E

theorem out_best {l : List Fl} {s : S} {n : Nat} {q : Nat} (hq : l.map Fl.q = s.fs) (hb : Bst l n (q : Int)) : ∀ j, j < n → (fq s j).ts ≠ [] → hd (fq s q).ts < hd (fq s j).ts ∨ (hd (fq s q).ts = hd (fq s j).ts ∧ q ≤ j) := fun j hj hne => by
  rw [flq hq j] at hne ⊢
  rw [flq hq q]
  rcases hb with ⟨h, _⟩ | ⟨_, _, _, h⟩
  · omega
  · exact h j hj (List.length_pos_iff.2 hne)
theorem left_take {s : S} {k : Nat} (h : k < s.fs.length) : (left s).take (k + 1) = (left s).take k ++ [((fq s k).ts.length : Int)] := by
  have hl : k < (left s).length := by simpa [left] using h
  rw [List.take_succ_eq_append_getElem hl]
  congr 2
  simp only [left, List.getElem_map, fq]
  rw [getD_lt h]
set_option maxRecDepth 100000 in
set_option maxHeartbeats 8000000 in
theorem play_ok (A : Option Addr) (n c : Nat) (ws : List Int) (B : Option Addr) (m d : Nat) (os : List O3) (w : World) (hr : Rd w A (ws.map (.int .i64))) (hn : ws.length = n) (hm : n ≤ 140737488355328) (hr2 : Rd w B (os.flatMap c3)) (hn2 : os.length = m) (hm2 : m ≤ 140737488355328) (hw : wrongOf ws = 0) (hmo : m ≤ 400) :
    Calls Try.prog 55 #[.slice A n c, .slice B m d] w fun e w' => ∃ r : S × Vs × Vs × Vs, (Run ws os n m r.1 ∧ (r.2.1.n = r.1.errs.length ∧ r.2.1.xs = cI r.1.errs) ∧ (r.2.2.1.n = r.1.sent.length ∧ r.2.2.1.xs = r.1.sent.flatMap c2) ∧ r.2.2.2.n = n ∧ r.2.2.2.xs = cI (left r.1)) ∧ e = .returned (.tuple #[.slice r.2.1.A r.2.1.n r.2.1.c, .slice r.2.2.1.A r.2.2.1.n r.2.2.1.c, .slice r.2.2.2.A r.2.2.2.n r.2.2.2.c, (.int .i64 0)]) ∧ St w w' [vec 26 1 (.slice r.2.1.A r.2.1.n r.2.1.c) r.2.1.n r.2.1.xs, vec 64 2 (.slice r.2.2.1.A r.2.2.1.n r.2.2.1.c) r.2.2.1.n r.2.2.1.xs, vec 3 1 (.slice r.2.2.2.A r.2.2.2.n r.2.2.2.c) r.2.2.2.n r.2.2.2.xs] := by
  obtain ⟨hn16, hgw0⟩ := wrong_ok hw
  have hgw : ∀ k, k < n → 1 ≤ ws.getD k 0 ∧ ws.getD k 0 ≤ 12 := fun k hk => hgw0 k (by omega)
  have hwr := hr
  refine calls_tr Try.func55 Try.ntmps55 rfl rfl (St.refl _) ?_
  refine tr_seq ?_
  refine tr_region ?_
  refine tl_step rfl (oj_val (y_assign fe_c) ?_)
  refine tl_step rfl (oj_val (y_assign fe_c) ?_)
  refine tl_step rfl (oj_val (y_assign fe_c) ?_)
  refine tl_step rfl (oj_val (y_assign fe_c) ?_)
  refine tl_nil ?_
  refine tx_then ?_
  refine tr_seq ?_
  refine tr_seq ?_
  refine tr_region ?_
  refine tl_step rfl (oj_val (y_move (fe_t rfl)) ?_)
  refine tl_step rfl (oj_callv Try.call57 fe_f (fel_cons (fe_t rfl) fel_nil) (fun w' hS => wrongE A n c ws w' (Rd.below hr hS.below) hn hm) ?_)
  refine tl_step rfl (oj_val (y_assign (fe_t rfl)) ?_)
  refine tl_nil ?_
  refine tx_then ?_
  refine tr_seq ?_
  refine tr_region ?_
  refine tl_step rfl (oj_val (y_move (fe_t rfl)) ?_)
  refine tl_step rfl (oj_val (y_neq (fe_t rfl) fe_c) ?_)
  refine tl_nil ?_
  refine tx_then ?_
  refine tr_condp (fe_t rfl) (fun hq1 => ?_) (fun hq2 => ?_)
  · exact absurd hw hq1
  · try (exfalso; omega)
    all_goals
      refine tr_skip ?_
      refine tx_then ?_
      refine tr_seq ?_
      refine tr_seq ?_
      refine tr_region ?_
      refine tl_step rfl (oj_val (y_move (fe_t rfl)) ?_)
      refine tl_step rfl (oj_val (y_len Try.underlying101 (fe_t rfl)) ?_)
      refine tl_step rfl (oj_val (y_gtr (fe_t rfl) fe_c) ?_)
      refine tl_nil ?_
      refine tx_then ?_
      refine tr_condp (fe_t rfl) (fun hq3 => ?_) (fun hq4 => ?_)
      · exfalso; omega
      · try (exfalso; omega)
        all_goals
          refine tr_skip ?_
          refine tx_then ?_
          refine tr_seq ?_
          refine tr_region ?_
          refine tl_step rfl (oj_val (y_move (fe_t rfl)) ?_)
          refine tl_step rfl (oj_val (y_len Try.underlying31 (fe_t rfl)) ?_)
          refine tl_step rfl (oj_makeF (z0 := Fl.nil) (c := cF) (n := n) (cs := [.slice none 0 0, .slice none 0 0, (.int .i64 0)]) (s := 3) (bytes := 56) Try.underlying165 (by kernel_rfl) (fe_t rfl) (fe_t rfl) rfl rfl (by decide) ⟨by omega, by decide⟩ (fun g => ?_))
          refine tl_step rfl (oj_val (y_assign (fe_t rfl)) ?_)
          refine tl_nil ?_
          refine tx_then ?_
          refine tr_seq ?_
          refine tr_add (r := subs 3 1 ((List.replicate n Fl.nil).map Fl.bV)) (by rw [nil_map (f := Fl.bV) rfl]; exact subs_nils) (by rw [nil_map (f := Fl.bV) rfl]; exact subs_nils_foot) ?_
          refine tr_add (r := subs 3 1 ((List.replicate n Fl.nil).map Fl.tV)) (by rw [nil_map (f := Fl.tV) rfl]; exact subs_nils) (by rw [nil_map (f := Fl.tV) rfl]; exact subs_nils_foot) ?_
          refine tr_region ?_
          refine tl_step rfl (oj_val (y_assign fe_c) ?_)
          refine tl_nil ?_
          refine tx_then ?_
          refine tr_seq ?_
          refine tr_region ?_
          refine tl_step rfl (oj_val (y_assign fe_c) ?_)
          refine tl_nil ?_
          refine tx_then ?_
          refine tr_seq ?_
          refine tr_region ?_
          refine tl_step rfl (oj_val (y_assign fe_c) ?_)
          refine tl_nil ?_
          refine tx_then ?_
          refine tr_seq ?_
          refine tr_seq ?_
          refine tr_region ?_
          refine tl_step rfl (oj_val (y_move (fe_t rfl)) ?_)
          refine tl_step rfl (oj_val (y_len Try.underlying101 (fe_t rfl)) ?_)
          refine tl_step rfl (oj_val (y_move fe_c) ?_)
          refine tl_nil ?_
          refine tx_then ?_
          refine tr_block ?_
          refine tr_add (r := vec 26 1 (.slice none 0 0) 0 []) vec_nil rfl ?_
          refine tr_add (r := vec 64 2 (.slice none 0 0) 0 []) vec_nil rfl ?_
          refine tr_loop5 [10, 11, 12, 14, 15, 16, 17, 18, 19, 20, 37, 38, 39, 40, 41, 42, 43, 44, 45, 46, 47, 48, 49, 50, 51, 52, 53, 54, 55, 56, 57, 58, 59, 60, 61, 62, 63, 64, 65, 66, 67, 68, 69, 70, 71, 72, 73, 74, 75, 76, 77, 78, 79, 80, 81, 82, 83, 84, 85, 86, 87, 88, 89, 90, 91, 92, 93, 94, 95, 96, 97, 98, 99, 100, 101, 102, 103, 104, 105, 106, 107, 108, 109, 110, 111, 112, 113, 114, 115, 116, 117, 118, 119, 120, 121, 122, 123, 124, 125, 126, 127, 128, 129, 130, 131, 132, 133, 134, 135, 136, 137, 138, 139, 140, 141, 142, 143, 144, 145, 146, 147, 148, 149, 150, 151, 152, 153, 154, 155, 156, 157, 158, 159, 160, 161, 162, 163, 164, 165, 166, 167, 168, 169, 170, 171, 172, 173, 174, 175, 176, 177, 178, 179, 180, 181, 182, 183, 184, 185, 186, 187] (fun (i : Nat) (s : S) (l : List Fl) (e1 : Vs) (s1 : Vs) => [(37, .int .i64 (i : Int)), (10, .int .i64 s.now), (11, .slice e1.A e1.n e1.c), (12, .slice s1.A s1.n s1.c)]) 0 (fun (i : Nat) (s : S) (l : List Fl) (e1 : Vs) (s1 : Vs) => [(4, vec 170 3 (.slice (some ⟨g, 0, none⟩) n n) n (l.flatMap cF)), (3, subs 3 1 (l.map Fl.bV)), (2, subs 3 1 (l.map Fl.tV)), (1, vec 26 1 (.slice e1.A e1.n e1.c) e1.n e1.xs), (0, vec 64 2 (.slice s1.A s1.n s1.c) s1.n s1.xs)]) (fun (i : Nat) (s : S) (l : List Fl) (e1 : Vs) (s1 : Vs) => i ≤ m ∧ Run ws os n i s ∧ l.length = n ∧ l.map Fl.q = s.fs ∧ (e1.n = s.errs.length ∧ e1.xs = cI s.errs) ∧ s1.n = s.sent.length ∧ s1.xs = s.sent.flatMap c2) (fun (i : Nat) (s : S) (l : List Fl) (e1 : Vs) (s1 : Vs) => m - i) (0) (⟨List.replicate n Q.nil, 0, [], []⟩) (List.replicate n Fl.nil) (⟨none, 0, 0, []⟩ : Vs) (⟨none, 0, 0, []⟩ : Vs) (cov_cons (by first | rfl | exact v_int (by omega) | exact v_int (by dsimp only; rw [hfk]; rfl)) (cov_cons (by first | rfl | exact v_int (by omega) | exact v_int (by dsimp only; rw [hfk]; rfl)) (cov_cons (by first | rfl | exact v_int (by omega) | exact v_int (by dsimp only; rw [hfk]; rfl)) (cov_cons (by first | rfl | exact v_int (by omega) | exact v_int (by dsimp only; rw [hfk]; rfl)) (cov_nil))))) (fun w h => h) ?_ ?_
          · try dsimp only
            exact ⟨by omega, rfl, by simp, by simp [Fl.q, Fl.nil, Q.nil], ⟨rfl, rfl⟩, rfl, rfl⟩
          intro i s l e1 s1 hp
          obtain ⟨hi, hrun, hll, hq, ⟨hen, hex⟩, hsn, hsx⟩ := hp
          have hwf := run_wf hgw hrun
          have hnw := hwf.now
          have hel := hwf.errs
          have hsl := hwf.sent
          refine tr_seq ?_
          refine tr_region ?_
          refine tl_step rfl (oj_val (y_lss (fe_t rfl) (fe_t rfl)) ?_)
          refine tl_nil ?_
          refine tx_then ?_
          refine tr_seq ?_
          refine tr_condp (fe_t rfl) (fun hq5 => ?_) (fun hq6 => ?_)
          · try (exfalso; omega)
            all_goals
              refine tr_skip ?_
              refine tx_then ?_
              refine tr_seq ?_
              refine tr_block ?_
              refine tr_seq ?_
              refine tr_region ?_
              refine tl_step rfl (oj_val (y_index Try.underlying101 Try.sizeOf167 (fe_t rfl) (fe_t rfl) (rdl_out hr2) (lenO hn2) (by decide) (by omega) rfl) ?_)
              refine tl_step rfl (oj_val (y_ldA (cs := [(.int .i64 (o1 os i)), (.int .i64 (o2 os i)), (.int .i64 (o3 os i))]) Try.isAgg167 Try.sizeOf167 (fe_t rfl) (rdl_out hr2) rfl (by decide) (getO (by omega))) ?_)
              refine tl_step rfl (oj_alloc Try.zeroValue167 (fun bo => ?_))
              refine tl_step rfl (oj_storeW 0 Try.sizeOf167 (fe_t rfl) (fe_t rfl) rfl rfl rfl rfl rfl (?_))
              refine tl_nil ?_
              refine tx_then ?_
              refine tr_seq ?_
              refine tr_region ?_
              refine tl_step rfl (oj_val (y_assign fe_c) ?_)
              refine tl_nil ?_
              refine tx_then ?_
              refine tr_seq ?_
              refine tr_seq ?_
              refine tr_region ?_
              refine tl_step rfl (oj_val (y_fieldAddr (td := 3) Try.underlying167 rfl rfl Try.sizeOf3 (o' := 0) rfl (fe_t rfl)) ?_)
              refine tl_step rfl (oj_val (y_ldb 0 Try.isAgg3 (fe_t rfl) rfl rfl) ?_)
              refine tl_nil ?_
              refine tx_then ?_
              refine tr_block ?_
              refine tr_seq ?_
              refine tr_region ?_
              refine tl_step rfl (oj_val (y_eq (fe_t rfl) fe_c) ?_)
              refine tl_step rfl (oj_val (y_assign (fe_t rfl)) ?_)
              refine tl_nil ?_
              refine tx_then ?_
              refine tr_condp (fe_t rfl) (fun hq7 => ?_) (fun hq8 => ?_)
              · try (exfalso; omega)
                all_goals
                  refine tr_block ?_
                  refine tr_seq ?_
                  refine tr_region ?_
                  refine tl_step rfl (oj_val (y_fieldAddr (td := 3) Try.underlying167 rfl rfl Try.sizeOf3 (o' := 1) rfl (fe_t rfl)) ?_)
                  refine tl_step rfl (oj_val (y_ldb 0 Try.isAgg3 (fe_t rfl) rfl rfl) ?_)
                  refine tl_step rfl (oj_val (y_lss (fe_t rfl) fe_c) ?_)
                  refine tl_step rfl (oj_val (y_move (fe_t rfl)) ?_)
                  refine tl_splitp (d := 96) rfl (fun hq9 => ?_) (fun hq10 => ?_)
                  · try (exfalso; omega)
                    all_goals
                      refine tl_skip rfl rfl rfl rfl ?_
                      refine tl_skip rfl rfl rfl rfl ?_
                      refine tl_skip rfl rfl rfl rfl ?_
                      refine tl_skip rfl rfl rfl rfl ?_
                      refine tl_skip rfl rfl rfl rfl ?_
                      refine tl_step rfl (oj_val (y_pickt (fe_t rfl) fe_c) ?_)
                      refine tl_step rfl (oj_val (y_assign (fe_t rfl)) ?_)
                      refine tl_nil ?_
                      refine tx_then ?_
                      refine tr_condt (fe_t rfl) ?_
                      refine tr_region ?_
                      refine tl_step rfl (oj_val (y_assign fe_c) ?_)
                      refine tl_nil ?_
                      refine tx_in ?_
                      refine tx_in ?_
                      refine tx_then ?_
                      refine tr_region ?_
                      refine tl_step rfl (oj_val (y_move (fe_t rfl)) ?_)
                      refine tl_step rfl (oj_val (y_move (fe_t rfl)) ?_)
                      refine tl_step rfl (oj_slice1 Try.underlying102 Try.sizeOf26 Try.zeroValue26 (fe_t rfl) (by decide) rfl (fun b1 => ?_))
                      refine tl_step rfl (oj_append (i := 3) (s := 1) (z := (.int .i64 0)) (bytes := 8) Try.underlying102 (by kernel_rfl) (fe_t rfl) (fe_t rfl) rfl (rdl_blk 0 rfl) rfl (by decide) (by first | exact oneI | exact oneF (fun _ => rfl) | exact fun u hu => List.all_eq_true.1 (show List.all _ (fun x => x.oneCell') = true from rfl) u hu | (intro u hu; revert u hu; simp [Value.oneCell'])) (by decide) ⟨by omega, by decide⟩ (fun Aa1 ca1 hca1 => ?_))
                      refine tl_step rfl (oj_val (y_assign (fe_t rfl)) ?_)
                      refine tl_nil ?_
                      refine tx_in ?_
                      refine tx_then ?_
                      refine tr_region ?_
                      refine tl_step rfl (oj_val (y_inc (fe_t rfl) fe_c (by omega)) ?_)
                      refine tl_step rfl (oj_val (y_move (fe_t rfl)) ?_)
                      refine tl_nil ?_
                      apply tx_back5 (i + 1) ({ s with errs := s.errs ++ [3] }) (_) ((⟨_, _, _, _⟩ : Vs)) ((⟨_, _, _, _⟩ : Vs))
                      · exact (cov_cons (by first | rfl | exact v_int (by omega) | exact v_int (by dsimp only; rw [hfk]; rfl)) (cov_cons (by first | rfl | exact v_int (by omega) | exact v_int (by dsimp only; rw [hfk]; rfl)) (cov_cons (by first | rfl | exact v_int (by omega) | exact v_int (by dsimp only; rw [hfk]; rfl)) (cov_cons (by first | rfl | exact v_int (by omega) | exact v_int (by dsimp only; rw [hfk]; rfl)) (cov_nil)))))
                      · repeat (first | exact over_nil | refine over_put rfl ?_ | refine over_drop rfl ?_)
                      · exact fun w h => h.pick [2, 3, 4, 5, 6] _ rfl (by decide)
                      · exact ⟨⟨by omega, ⟨s, hrun, .none (by show o1 os i = 1; omega) (by show o2 os i < 0 ∨ _ ≤ o2 os i; omega)⟩, hll, hq, ⟨by simp; omega, by dsimp only; rw [hex, cI, cI, List.map_append]; rfl⟩, hsn, hsx⟩, by omega⟩
                  · try (exfalso; omega)
                    all_goals
                      refine tl_want rfl rfl rfl (oj_val (y_fieldAddr (td := 3) Try.underlying167 rfl rfl Try.sizeOf3 (o' := 1) rfl (fe_t rfl)) ?_)
                      refine tl_want rfl rfl rfl (oj_val (y_ldb 0 Try.isAgg3 (fe_t rfl) rfl rfl) ?_)
                      refine tl_want rfl rfl rfl (oj_val (y_move (fe_t rfl)) ?_)
                      refine tl_want rfl rfl rfl (oj_val (y_len Try.underlying165 (fe_t rfl)) ?_)
                      refine tl_want rfl rfl rfl (oj_val (y_geq (fe_t rfl) (fe_t rfl)) ?_)
                      refine tl_step rfl (oj_val (y_pickf (fe_t rfl) (fe_t rfl)) ?_)
                      refine tl_step rfl (oj_val (y_assign (fe_t rfl)) ?_)
                      refine tl_nil ?_
                      refine tx_then ?_
                      refine tr_condp (fe_t rfl) (fun hq11 => ?_) (fun hq12 => ?_)
                      · try (exfalso; omega)
                        all_goals
                          refine tr_region ?_
                          refine tl_step rfl (oj_val (y_assign fe_c) ?_)
                          refine tl_nil ?_
                          refine tx_in ?_
                          refine tx_in ?_
                          refine tx_then ?_
                          refine tr_region ?_
                          refine tl_step rfl (oj_val (y_move (fe_t rfl)) ?_)
                          refine tl_step rfl (oj_val (y_move (fe_t rfl)) ?_)
                          refine tl_step rfl (oj_slice1 Try.underlying102 Try.sizeOf26 Try.zeroValue26 (fe_t rfl) (by decide) rfl (fun b2 => ?_))
                          refine tl_step rfl (oj_append (i := 3) (s := 1) (z := (.int .i64 0)) (bytes := 8) Try.underlying102 (by kernel_rfl) (fe_t rfl) (fe_t rfl) rfl (rdl_blk 0 rfl) rfl (by decide) (by first | exact oneI | exact oneF (fun _ => rfl) | exact fun u hu => List.all_eq_true.1 (show List.all _ (fun x => x.oneCell') = true from rfl) u hu | (intro u hu; revert u hu; simp [Value.oneCell'])) (by decide) ⟨by omega, by decide⟩ (fun Aa2 ca2 hca2 => ?_))
                          refine tl_step rfl (oj_val (y_assign (fe_t rfl)) ?_)
                          refine tl_nil ?_
                          refine tx_in ?_
                          refine tx_then ?_
                          refine tr_region ?_
                          refine tl_step rfl (oj_val (y_inc (fe_t rfl) fe_c (by omega)) ?_)
                          refine tl_step rfl (oj_val (y_move (fe_t rfl)) ?_)
                          refine tl_nil ?_
                          apply tx_back5 (i + 1) ({ s with errs := s.errs ++ [3] }) (_) ((⟨_, _, _, _⟩ : Vs)) ((⟨_, _, _, _⟩ : Vs))
                          · exact (cov_cons (by first | rfl | exact v_int (by omega) | exact v_int (by dsimp only; rw [hfk]; rfl)) (cov_cons (by first | rfl | exact v_int (by omega) | exact v_int (by dsimp only; rw [hfk]; rfl)) (cov_cons (by first | rfl | exact v_int (by omega) | exact v_int (by dsimp only; rw [hfk]; rfl)) (cov_cons (by first | rfl | exact v_int (by omega) | exact v_int (by dsimp only; rw [hfk]; rfl)) (cov_nil)))))
                          · repeat (first | exact over_nil | refine over_put rfl ?_ | refine over_drop rfl ?_)
                          · exact fun w h => h.pick [2, 3, 4, 5, 6] _ rfl (by decide)
                          · exact ⟨⟨by omega, ⟨s, hrun, .none (by show o1 os i = 1; omega) (by show o2 os i < 0 ∨ _ ≤ o2 os i; omega)⟩, hll, hq, ⟨by simp; omega, by dsimp only; rw [hex, cI, cI, List.map_append]; rfl⟩, hsn, hsx⟩, by omega⟩
                      · try (exfalso; omega)
                        all_goals
                          refine tr_seq ?_
                          refine tr_region ?_
                          refine tl_step rfl (oj_val (y_fieldAddr (td := 3) Try.underlying167 rfl rfl Try.sizeOf3 (o' := 2) rfl (fe_t rfl)) ?_)
                          refine tl_step rfl (oj_val (y_ldb 0 Try.isAgg3 (fe_t rfl) rfl rfl) ?_)
                          refine tl_step rfl (oj_val (y_lss (fe_t rfl) fe_c) ?_)
                          refine tl_step rfl (oj_val (y_move (fe_t rfl)) ?_)
                          refine tl_splitp (d := 107) rfl (fun hq13 => ?_) (fun hq14 => ?_)
                          · try (exfalso; omega)
                            all_goals
                              refine tl_skip rfl rfl rfl rfl ?_
                              refine tl_skip rfl rfl rfl rfl ?_
                              refine tl_skip rfl rfl rfl rfl ?_
                              refine tl_step rfl (oj_val (y_pickt (fe_t rfl) fe_c) ?_)
                              refine tl_step rfl (oj_val (y_assign (fe_t rfl)) ?_)
                              refine tl_nil ?_
                              refine tx_then ?_
                              refine tr_condt (fe_t rfl) ?_
                              refine tr_region ?_
                              refine tl_step rfl (oj_val (y_assign fe_c) ?_)
                              refine tl_nil ?_
                              refine tx_in ?_
                              refine tx_in ?_
                              refine tx_then ?_
                              refine tr_region ?_
                              refine tl_step rfl (oj_val (y_move (fe_t rfl)) ?_)
                              refine tl_step rfl (oj_val (y_move (fe_t rfl)) ?_)
                              refine tl_step rfl (oj_slice1 Try.underlying102 Try.sizeOf26 Try.zeroValue26 (fe_t rfl) (by decide) rfl (fun b3 => ?_))
                              refine tl_step rfl (oj_append (i := 3) (s := 1) (z := (.int .i64 0)) (bytes := 8) Try.underlying102 (by kernel_rfl) (fe_t rfl) (fe_t rfl) rfl (rdl_blk 0 rfl) rfl (by decide) (by first | exact oneI | exact oneF (fun _ => rfl) | exact fun u hu => List.all_eq_true.1 (show List.all _ (fun x => x.oneCell') = true from rfl) u hu | (intro u hu; revert u hu; simp [Value.oneCell'])) (by decide) ⟨by omega, by decide⟩ (fun Aa3 ca3 hca3 => ?_))
                              refine tl_step rfl (oj_val (y_assign (fe_t rfl)) ?_)
                              refine tl_nil ?_
                              refine tx_in ?_
                              refine tx_then ?_
                              refine tr_region ?_
                              refine tl_step rfl (oj_val (y_inc (fe_t rfl) fe_c (by omega)) ?_)
                              refine tl_step rfl (oj_val (y_move (fe_t rfl)) ?_)
                              refine tl_nil ?_
                              apply tx_back5 (i + 1) ({ s with errs := s.errs ++ [2] }) (_) ((⟨_, _, _, _⟩ : Vs)) ((⟨_, _, _, _⟩ : Vs))
                              · exact (cov_cons (by first | rfl | exact v_int (by omega) | exact v_int (by dsimp only; rw [hfk]; rfl)) (cov_cons (by first | rfl | exact v_int (by omega) | exact v_int (by dsimp only; rw [hfk]; rfl)) (cov_cons (by first | rfl | exact v_int (by omega) | exact v_int (by dsimp only; rw [hfk]; rfl)) (cov_cons (by first | rfl | exact v_int (by omega) | exact v_int (by dsimp only; rw [hfk]; rfl)) (cov_nil)))))
                              · repeat (first | exact over_nil | refine over_put rfl ?_ | refine over_drop rfl ?_)
                              · exact fun w h => h.pick [2, 3, 4, 5, 6] _ rfl (by decide)
                              · exact ⟨⟨by omega, ⟨s, hrun, .range (by show o1 os i = 1; omega) (by show 0 ≤ o2 os i ∧ o2 os i < _; omega) (by show o3 os i < 1 ∨ 1500 < o3 os i; omega)⟩, hll, hq, ⟨by simp; omega, by dsimp only; rw [hex, cI, cI, List.map_append]; rfl⟩, hsn, hsx⟩, by omega⟩
                          · try (exfalso; omega)
                            all_goals
                              refine tl_want rfl rfl rfl (oj_val (y_fieldAddr (td := 3) Try.underlying167 rfl rfl Try.sizeOf3 (o' := 2) rfl (fe_t rfl)) ?_)
                              refine tl_want rfl rfl rfl (oj_val (y_ldb 0 Try.isAgg3 (fe_t rfl) rfl rfl) ?_)
                              refine tl_want rfl rfl rfl (oj_val (y_gtr (fe_t rfl) fe_c) ?_)
                              refine tl_step rfl (oj_val (y_pickf (fe_t rfl) (fe_t rfl)) ?_)
                              refine tl_step rfl (oj_val (y_assign (fe_t rfl)) ?_)
                              refine tl_nil ?_
                              refine tx_then ?_
                              refine tr_condp (fe_t rfl) (fun hq15 => ?_) (fun hq16 => ?_)
                              · try (exfalso; omega)
                                all_goals
                                  refine tr_region ?_
                                  refine tl_step rfl (oj_val (y_assign fe_c) ?_)
                                  refine tl_nil ?_
                                  refine tx_in ?_
                                  refine tx_in ?_
                                  refine tx_then ?_
                                  refine tr_region ?_
                                  refine tl_step rfl (oj_val (y_move (fe_t rfl)) ?_)
                                  refine tl_step rfl (oj_val (y_move (fe_t rfl)) ?_)
                                  refine tl_step rfl (oj_slice1 Try.underlying102 Try.sizeOf26 Try.zeroValue26 (fe_t rfl) (by decide) rfl (fun b4 => ?_))
                                  refine tl_step rfl (oj_append (i := 3) (s := 1) (z := (.int .i64 0)) (bytes := 8) Try.underlying102 (by kernel_rfl) (fe_t rfl) (fe_t rfl) rfl (rdl_blk 0 rfl) rfl (by decide) (by first | exact oneI | exact oneF (fun _ => rfl) | exact fun u hu => List.all_eq_true.1 (show List.all _ (fun x => x.oneCell') = true from rfl) u hu | (intro u hu; revert u hu; simp [Value.oneCell'])) (by decide) ⟨by omega, by decide⟩ (fun Aa4 ca4 hca4 => ?_))
                                  refine tl_step rfl (oj_val (y_assign (fe_t rfl)) ?_)
                                  refine tl_nil ?_
                                  refine tx_in ?_
                                  refine tx_then ?_
                                  refine tr_region ?_
                                  refine tl_step rfl (oj_val (y_inc (fe_t rfl) fe_c (by omega)) ?_)
                                  refine tl_step rfl (oj_val (y_move (fe_t rfl)) ?_)
                                  refine tl_nil ?_
                                  apply tx_back5 (i + 1) ({ s with errs := s.errs ++ [2] }) (_) ((⟨_, _, _, _⟩ : Vs)) ((⟨_, _, _, _⟩ : Vs))
                                  · exact (cov_cons (by first | rfl | exact v_int (by omega) | exact v_int (by dsimp only; rw [hfk]; rfl)) (cov_cons (by first | rfl | exact v_int (by omega) | exact v_int (by dsimp only; rw [hfk]; rfl)) (cov_cons (by first | rfl | exact v_int (by omega) | exact v_int (by dsimp only; rw [hfk]; rfl)) (cov_cons (by first | rfl | exact v_int (by omega) | exact v_int (by dsimp only; rw [hfk]; rfl)) (cov_nil)))))
                                  · repeat (first | exact over_nil | refine over_put rfl ?_ | refine over_drop rfl ?_)
                                  · exact fun w h => h.pick [2, 3, 4, 5, 6] _ rfl (by decide)
                                  · exact ⟨⟨by omega, ⟨s, hrun, .range (by show o1 os i = 1; omega) (by show 0 ≤ o2 os i ∧ o2 os i < _; omega) (by show o3 os i < 1 ∨ 1500 < o3 os i; omega)⟩, hll, hq, ⟨by simp; omega, by dsimp only; rw [hex, cI, cI, List.map_append]; rfl⟩, hsn, hsx⟩, by omega⟩
                              · try (exfalso; omega)
                                all_goals
                                  refine tr_seq ?_
                                  obtain ⟨k, hk⟩ : ∃ k : Nat, o2 os i = k := ⟨(o2 os i).toNat, by omega⟩
                                  have hkn : k < n := by omega
                                  have hfk := flq hq k
                                  have hwl := hwf.last k
                                  have hws := hwf.same k
                                  have hwc := hwf.cnt k
                                  rw [hfk] at hwl hws hwc
                                  obtain ⟨q1, q2, _⟩ := w_quo (hgw k hkn)
                                  have hp1 : 1 * 2310 ≤ o3 os i * (27720 / ws.getD k 0) := Int.mul_le_mul (by omega) q1 (by omega) (by omega)
                                  have hp2 : o3 os i * (27720 / ws.getD k 0) ≤ 1500 * 27720 := Int.mul_le_mul (by omega) q2 (by omega) (by omega)
                                  simp only [Fl.q] at hwl hws hwc
                                  refine tr_region ?_
                                  refine tl_step rfl (oj_val (y_move (fe_t rfl)) ?_)
                                  refine tl_step rfl (oj_val (y_fieldAddr (td := 3) Try.underlying167 rfl rfl Try.sizeOf3 (o' := 1) rfl (fe_t rfl)) ?_)
                                  refine tl_step rfl (oj_val (y_ldb 0 Try.isAgg3 (fe_t rfl) rfl rfl) ?_)
                                  refine tl_step rfl (oj_val (y_index Try.underlying165 Try.sizeOf170 (fe_t rfl) (fe_i hk rfl) (rdl_vec 5 rfl) (by rw [flat_len hcF]; omega) (by decide) (by omega) rfl) ?_)
                                  refine tl_step rfl (oj_val (y_assign (fe_t rfl)) ?_)
                                  refine tl_nil ?_
                                  refine tx_then ?_
                                  refine tr_seq ?_
                                  refine tr_norm (L' := [_, _, _, _, _, _]) (fun w h => h.pick [0, 1, 2, 3, 4, 5] _ rfl (by decide)) ?_
                                  refine tb_draw1 19 [_, _, _, _, _, _] [_, _, _, _, _, _] (fun w h => h.pick [0, 1, 2, 3, 4, 5] _ rfl (by decide)) (fun w h => (h.weak (i := 5) rfl).pick [5, 0, 1, 2, 3, 4] _ rfl (by decide)) rfl ?_
                                  refine tb_float (i := 0) rfl (by kernel_rfl) rfl (wants_none rfl) (yq_of (y_move (fe_t rfl))) ?_
                                  refine tb_float (i := 1) rfl (by kernel_rfl) rfl (wants_none rfl) (yq_of (y_move (fe_t rfl))) ?_
                                  refine tb_float (i := 2) rfl (by kernel_rfl) rfl (wants_none rfl) (yq_of (y_nilCheckR (fe_t rfl) (rch_w 0 rfl (by omega)))) ?_
                                  refine tb_float (i := 3) rfl (by kernel_rfl) rfl (wants_none rfl) (yq_of (y_fieldAddrR (td := 3) Try.underlying170 rfl rfl Try.sizeOf3 rfl (fe_t rfl) (rch_w 0 rfl (by omega)))) ?_
                                  refine tb_float1 (i := 4) rfl (by kernel_rfl) (by kernel_rfl) rfl (wants_none rfl) (yq_of (y_ld Try.isAgg3 (fe_t rfl) (rdl_vec 5 rfl) (flatG (d := Fl.nil) (i := 2) hcF (by omega) rfl))) ?_
                                  refine tb_float (i := 5) rfl (by kernel_rfl) rfl (wants_none rfl) (yq_of (y_move (fe_t rfl))) ?_
                                  refine tb_float (i := 6) rfl (by kernel_rfl) rfl (wants_none rfl) (yq_of (y_max (fe_t rfl) (fe_t rfl))) ?_
                                  refine tb_float (i := 7) rfl (by kernel_rfl) rfl (wants_none rfl) (yq_of (y_fieldAddr (td := 3) Try.underlying167 rfl rfl Try.sizeOf3 (o' := 2) rfl (fe_t rfl))) ?_
                                  refine tb_float (i := 8) rfl (by kernel_rfl) rfl (wants_none rfl) (yq_of (y_ldb 1 Try.isAgg3 (fe_t rfl) rfl rfl)) ?_
                                  refine tb_float (i := 9) rfl (by kernel_rfl) rfl (wants_none rfl) (yq_of (y_move (fe_t rfl))) ?_
                                  refine tb_float (i := 10) rfl (by kernel_rfl) rfl (wants_none rfl) (yq_of (y_fieldAddr (td := 3) Try.underlying167 rfl rfl Try.sizeOf3 (o' := 1) rfl (fe_t rfl))) ?_
                                  refine tb_float (i := 11) rfl (by kernel_rfl) rfl (wants_none rfl) (yq_of (y_ldb 1 Try.isAgg3 (fe_t rfl) rfl rfl)) ?_
                                  refine tb_float (i := 12) rfl (by kernel_rfl) rfl (wants_none rfl) (yq_of (y_index Try.underlying31 Try.sizeOf3 (fe_t rfl) (fe_i hk rfl) (rdl_out hr) (by simp; omega) (by decide) (by omega) (Nat.mul_one _))) ?_
                                  refine tb_float (i := 13) rfl (by kernel_rfl) rfl (wants_none rfl) (yq_of (y_ld Try.isAgg3 (fe_t rfl) (rdl_out hr) (getW (by omega)))) ?_
                                  refine tb_float (i := 14) rfl (by kernel_rfl) rfl (wants_none rfl) (yq_of (y_quo fe_c (fe_t rfl) (by have := hgw k hkn; omega))) ?_
                                  refine tb_float (i := 15) rfl (by kernel_rfl) rfl (wants_none rfl) (yq_of (y_mul (fe_t rfl) (fe_t rfl) (by omega))) ?_
                                  refine tb_float (i := 16) rfl (by kernel_rfl) rfl (wants_none rfl) (yq_of (y_add (fe_t rfl) (fe_t rfl) (by omega))) ?_
                                  refine tb_float (i := 17) rfl (by kernel_rfl) rfl (wants_none rfl) (yq_of (y_nilCheckR (fe_t rfl) (rch_w 0 rfl (by omega)))) ?_
                                  refine tb_float (i := 18) rfl (by kernel_rfl) rfl (wants_none rfl) (yq_of (y_fieldAddrR (td := 3) Try.underlying170 rfl rfl Try.sizeOf3 rfl (fe_t rfl) (rch_w 0 rfl (by omega)))) ?_
                                  refine tb_one2 (i := 19) rfl (by kernel_rfl) (by kernel_rfl) (wants_none rfl) (oj_storeG (i := 5) Fl.nil (⟨(l.getD k Fl.nil).A1, (l.getD k Fl.nil).c1, (l.getD k Fl.nil).bs, (l.getD k Fl.nil).A2, (l.getD k Fl.nil).c2, (l.getD k Fl.nil).ts, max (l.getD k Fl.nil).last s.now + o3 os i * (27720 / ws.getD k 0)⟩ : Fl) hcF Try.sizeOf3 (fe_t rfl) (fe_t rfl) rfl rfl rfl (by (try rw [List.length_set]); omega) rfl (rfl) (⟨fun w h => (h.weak (i := 5) rfl).pick [5, 0, 1, 2, 3, 4] _ rfl (by decide), ?_⟩))
                                  refine tb_done (by kernel_rfl) ?_
                                  refine tx_then ?_
                                  generalize hl1 : l.set k (⟨(l.getD k Fl.nil).A1, (l.getD k Fl.nil).c1, (l.getD k Fl.nil).bs, (l.getD k Fl.nil).A2, (l.getD k Fl.nil).c2, (l.getD k Fl.nil).ts, max (l.getD k Fl.nil).last s.now + o3 os i * (27720 / ws.getD k 0)⟩ : Fl) = l1
                                  have hl1n : l1.length = n := by rw [← hl1, List.length_set]; exact hll
                                  have hl1k : l1.getD k Fl.nil = (⟨(l.getD k Fl.nil).A1, (l.getD k Fl.nil).c1, (l.getD k Fl.nil).bs, (l.getD k Fl.nil).A2, (l.getD k Fl.nil).c2, (l.getD k Fl.nil).ts, max (l.getD k Fl.nil).last s.now + o3 os i * (27720 / ws.getD k 0)⟩ : Fl) := by rw [← hl1, getD_set (by omega), if_pos rfl]
                                  have hbn : (Fl.bV (l1.getD k Fl.nil)).n ≤ 400 := by rw [hl1k]; show (l.getD k Fl.nil).bs.length ≤ 400; omega
                                  have htn : (Fl.tV (l1.getD k Fl.nil)).n ≤ 400 := by rw [hl1k]; show (l.getD k Fl.nil).ts.length ≤ 400; omega
                                  refine tr_as (r' := subs 3 1 (l1.map Fl.bV)) 4 rfl (congrArg (subs _ _) (by rw [← hl1]; exact (map_set_same (d := Fl.nil) Fl.bV (by rfl)).symm)) ?_
                                  refine tr_as (r' := subs 3 1 (l1.map Fl.tV)) 3 rfl (congrArg (subs _ _) (by rw [← hl1]; exact (map_set_same (d := Fl.nil) Fl.tV (by rfl)).symm)) ?_
                                  refine tr_subOut 4 k rfl (map_at (d := Fl.nil) Fl.bV (by omega)) ?_
                                  refine tr_subOut 4 k rfl (map_at (d := Fl.nil) Fl.tV (by omega)) ?_
                                  refine tr_norm (L' := [_, _, _, _, _, _, _, _]) (fun w h => h.pick [0, 1, 2, 3, 4, 5, 6, 7] _ rfl (by decide)) ?_
                                  refine tb_draw1 22 [_, _, _, _, _, _] [_, _, _, _, _, _] (fun w h => h.pick [2, 3, 4, 5, 6, 7] _ rfl (by decide)) (fun w h => (h.weak (i := 5) rfl).pick [5, 0, 1, 2, 3, 4] _ rfl (by decide)) rfl ?_
                                  refine tb_float (i := 0) rfl (by kernel_rfl) rfl (wants_none rfl) (yq_of (y_move (fe_t rfl))) ?_
                                  refine tb_float (i := 1) rfl (by kernel_rfl) rfl (wants_none rfl) (yq_of (y_move (fe_t rfl))) ?_
                                  refine tb_float (i := 2) rfl (by kernel_rfl) rfl (wants_none rfl) (yq_of (y_move (fe_t rfl))) ?_
                                  refine tb_float (i := 3) rfl (by kernel_rfl) rfl (wants_none rfl) (yq_of (y_nilCheckR (fe_t rfl) (rch_w 0 rfl (by omega)))) ?_
                                  refine tb_float (i := 4) rfl (by kernel_rfl) rfl (wants_none rfl) (yq_of (y_fieldAddrR (td := 31) Try.underlying170 rfl rfl Try.sizeOf31 rfl (fe_t rfl) (rch_w 0 rfl (by omega)))) ?_
                                  refine tb_float1 (i := 5) rfl (by kernel_rfl) (by kernel_rfl) rfl (wants_none rfl) (yq_of (y_ld Try.isAgg31 (fe_t rfl) (rdl_vec 5 rfl) (flatG (d := Fl.nil) (i := 0) hcF (by omega) rfl))) ?_
                                  refine tb_float (i := 6) rfl (by kernel_rfl) rfl (wants_none rfl) (yq_of (y_fieldAddr (td := 3) Try.underlying167 rfl rfl Try.sizeOf3 (o' := 2) rfl (fe_t rfl))) ?_
                                  refine tb_float (i := 7) rfl (by kernel_rfl) rfl (wants_none rfl) (yq_of (y_ldb 1 Try.isAgg3 (fe_t rfl) rfl rfl)) ?_
                                  refine tb_float (i := 10) rfl (by kernel_rfl) rfl (wants_none rfl) (yq_of (y_move (fe_t rfl))) ?_
                                  refine tb_float (i := 11) rfl (by kernel_rfl) rfl (wants_none rfl) (yq_of (y_nilCheckR (fe_t rfl) (rch_w 0 rfl (by omega)))) ?_
                                  refine tb_float (i := 12) rfl (by kernel_rfl) rfl (wants_none rfl) (yq_of (y_fieldAddrR (td := 31) Try.underlying170 rfl rfl Try.sizeOf31 rfl (fe_t rfl) (rch_w 0 rfl (by omega)))) ?_
                                  refine tb_float1 (i := 13) rfl (by kernel_rfl) (by kernel_rfl) rfl (wants_none rfl) (yq_of (y_ld Try.isAgg31 (fe_t rfl) (rdl_vec 5 rfl) (flatG (d := Fl.nil) (i := 1) hcF (by omega) rfl))) ?_
                                  refine tb_float (i := 14) rfl (by kernel_rfl) rfl (wants_none rfl) (yq_of (y_move (fe_t rfl))) ?_
                                  refine tb_float (i := 15) rfl (by kernel_rfl) rfl (wants_none rfl) (yq_of (y_nilCheckR (fe_t rfl) (rch_w 0 rfl (by omega)))) ?_
                                  refine tb_float (i := 16) rfl (by kernel_rfl) rfl (wants_none rfl) (yq_of (y_fieldAddrR (td := 3) Try.underlying170 rfl rfl Try.sizeOf3 rfl (fe_t rfl) (rch_w 0 rfl (by omega)))) ?_
                                  refine tb_float1 (i := 17) rfl (by kernel_rfl) (by kernel_rfl) rfl (wants_none rfl) (yq_of (y_ld Try.isAgg3 (fe_t rfl) (rdl_vec 5 rfl) (flatG (d := Fl.nil) (i := 2) hcF (by omega) rfl))) ?_
                                  refine tb_two1 (i := 8) (j := 18) rfl rfl (by kernel_rfl) (by kernel_rfl) (by kernel_rfl) (wants_none rfl) (wants_none rfl) ?_ ?_
                                  · refine (oj_slice1 Try.underlying31 Try.sizeOf3 Try.zeroValue3 (fe_t rfl) (by decide) rfl (fun b5 => ⟨fun w h => h.pick [3, 4, 5, 6, 7, 8] _ rfl (by decide), ?_⟩))
                                    refine tb_two1 (i := 9) (j := 18) rfl rfl (by kernel_rfl) (by kernel_rfl) (by kernel_rfl) (wants_none rfl) (wants_none rfl) ?_ ?_
                                    · refine (oj_append (i := 2) (s := 1) (z := (.int .i64 0)) (bytes := 8) Try.underlying31 (by kernel_rfl) (fe_t rfl) (fe_t rfl) rfl (rdl_blk 0 rfl) rfl (by decide) (by first | exact oneI | exact oneF (fun _ => rfl) | exact fun u hu => List.all_eq_true.1 (show List.all _ (fun x => x.oneCell') = true from rfl) u hu | (intro u hu; revert u hu; simp [Value.oneCell'])) (by decide) ⟨by omega, by decide⟩ (fun Aa5 ca5 hca5 => ⟨fun w h => h.pick [3, 4, 5, 6, 7, 8] _ rfl (by decide), ?_⟩))
                                      refine tb_one1 (i := 18) rfl (by kernel_rfl) (by kernel_rfl) (wants_none rfl) (oj_slice1 Try.underlying31 Try.sizeOf3 Try.zeroValue3 (fe_t rfl) (by decide) rfl (fun b6 => ⟨fun w h => h.pick [4, 5, 6, 7, 8, 9] _ rfl (by decide), ?_⟩))
                                      refine tb_one1 (i := 19) rfl (by kernel_rfl) (by kernel_rfl) (wants_none rfl) (oj_append (i := 2) (s := 1) (z := (.int .i64 0)) (bytes := 8) Try.underlying31 (by kernel_rfl) (fe_t rfl) (fe_t rfl) rfl (rdl_blk 0 rfl) rfl (by decide) (by first | exact oneI | exact oneF (fun _ => rfl) | exact fun u hu => List.all_eq_true.1 (show List.all _ (fun x => x.oneCell') = true from rfl) u hu | (intro u hu; revert u hu; simp [Value.oneCell'])) (by decide) ⟨by omega, by decide⟩ (fun Aa6 ca6 hca6 => ⟨fun w h => h.pick [4, 5, 6, 7, 8, 9] _ rfl (by decide), ?_⟩))
                                      refine tb_float (i := 20) rfl (by kernel_rfl) rfl (wants_none rfl) (yq_of (y_nilCheckR (fe_t rfl) (rch_w 0 rfl (by omega)))) ?_
                                      refine tb_float (i := 21) rfl (by kernel_rfl) rfl (wants_none rfl) (yq_of (y_fieldAddrR (td := 31) Try.underlying170 rfl rfl Try.sizeOf31 rfl (fe_t rfl) (rch_w 0 rfl (by omega)))) ?_
                                      refine tb_one2 (i := 22) rfl (by kernel_rfl) (by kernel_rfl) (wants_none rfl) (oj_storeG (i := 9) Fl.nil (⟨Aa5, ca5, (l1.getD k Fl.nil).bs ++ [o3 os i], (l1.getD k Fl.nil).A2, (l1.getD k Fl.nil).c2, (l1.getD k Fl.nil).ts, (l1.getD k Fl.nil).last⟩ : Fl) hcF Try.sizeOf31 (fe_t rfl) (fe_t rfl) rfl rfl rfl (by (try rw [List.length_set]); omega) rfl (by simp [cF, Fl.bV]) (⟨fun w h => (h.weak (i := 9) rfl).pick [9, 4, 5, 6, 7, 8] _ rfl (by decide), ?_⟩))
                                      refine tb_float (i := 23) rfl (by kernel_rfl) rfl (wants_none rfl) (yq_of (y_nilCheckR (fe_t rfl) (rch_w 0 rfl (by omega)))) ?_
                                      refine tb_float (i := 24) rfl (by kernel_rfl) rfl (wants_none rfl) (yq_of (y_fieldAddrR (td := 31) Try.underlying170 rfl rfl Try.sizeOf31 rfl (fe_t rfl) (rch_w 0 rfl (by omega)))) ?_
                                      refine tb_one2 (i := 25) rfl (by kernel_rfl) (by kernel_rfl) (wants_none rfl) (oj_storeG (i := 9) Fl.nil (⟨Aa5, ca5, (l1.getD k Fl.nil).bs ++ [o3 os i], Aa6, ca6, (l1.getD k Fl.nil).ts ++ [(l1.getD k Fl.nil).last], (l1.getD k Fl.nil).last⟩ : Fl) hcF Try.sizeOf31 (fe_t rfl) (fe_t rfl) rfl rfl rfl (by (try rw [List.length_set]); omega) rfl (by rw [getD_set (by omega), if_pos rfl]; simp [cF, Fl.tV]) (⟨fun w h => (h.weak (i := 9) rfl).pick [9, 4, 5, 6, 7, 8] _ rfl (by decide), ?_⟩))
                                      refine tb_done (by kernel_rfl) ?_
                                      refine tx_in ?_
                                      refine tx_in ?_
                                      refine tx_then ?_
                                      rw [List.set_set]
                                      refine tr_subInJ 3 8 k rfl rfl rfl (map_nil_at Fl.bV (by omega)) (map_back (x := (⟨Aa5, ca5, (l1.getD k Fl.nil).bs ++ [o3 os i], Aa6, ca6, (l1.getD k Fl.nil).ts ++ [(l1.getD k Fl.nil).last], (l1.getD k Fl.nil).last⟩ : Fl)) Fl.bV (by simp [Fl.bV, Fl.tV, cI, zc])) ?_
                                      refine tr_subInJ 2 7 k rfl rfl rfl (map_nil_at Fl.tV (by omega)) (map_back (x := (⟨Aa5, ca5, (l1.getD k Fl.nil).bs ++ [o3 os i], Aa6, ca6, (l1.getD k Fl.nil).ts ++ [(l1.getD k Fl.nil).last], (l1.getD k Fl.nil).last⟩ : Fl)) Fl.tV (by simp [Fl.bV, Fl.tV, cI, zc])) ?_
                                      refine tr_region ?_
                                      refine tl_step rfl (oj_val (y_move (fe_t rfl)) ?_)
                                      refine tl_step rfl (oj_val (y_move (fe_t rfl)) ?_)
                                      refine tl_step rfl (oj_slice1 Try.underlying102 Try.sizeOf26 Try.zeroValue26 (fe_t rfl) (by decide) rfl (fun b7 => ?_))
                                      refine tl_step rfl (oj_append (i := 7) (s := 1) (z := (.int .i64 0)) (bytes := 8) Try.underlying102 (by kernel_rfl) (fe_t rfl) (fe_t rfl) rfl (rdl_blk 0 rfl) rfl (by decide) (by first | exact oneI | exact oneF (fun _ => rfl) | exact fun u hu => List.all_eq_true.1 (show List.all _ (fun x => x.oneCell') = true from rfl) u hu | (intro u hu; revert u hu; simp [Value.oneCell'])) (by decide) ⟨by omega, by decide⟩ (fun Aa7 ca7 hca7 => ?_))
                                      refine tl_step rfl (oj_val (y_assign (fe_t rfl)) ?_)
                                      refine tl_nil ?_
                                      refine tx_in ?_
                                      refine tx_then ?_
                                      refine tr_region ?_
                                      refine tl_step rfl (oj_val (y_inc (fe_t rfl) fe_c (by omega)) ?_)
                                      refine tl_step rfl (oj_val (y_move (fe_t rfl)) ?_)
                                      refine tl_nil ?_
                                      apply tx_back5 (i + 1) ({ s with errs := s.errs ++ [0], fs := s.fs.set k ⟨(fq s k).bs ++ [o3 os i], (fq s k).ts ++ [max (fq s k).last s.now + o3 os i * (27720 / ws.getD k 0)], max (fq s k).last s.now + o3 os i * (27720 / ws.getD k 0)⟩ }) (_) ((⟨_, _, _, _⟩ : Vs)) ((⟨_, _, _, _⟩ : Vs))
                                      · exact (cov_cons (by first | rfl | exact v_int (by omega) | exact v_int (by dsimp only; rw [hfk]; rfl)) (cov_cons (by first | rfl | exact v_int (by omega) | exact v_int (by dsimp only; rw [hfk]; rfl)) (cov_cons (by first | rfl | exact v_int (by omega) | exact v_int (by dsimp only; rw [hfk]; rfl)) (cov_cons (by first | rfl | exact v_int (by omega) | exact v_int (by dsimp only; rw [hfk]; rfl)) (cov_nil)))))
                                      · repeat (first | exact over_nil | refine over_put rfl ?_ | refine over_drop rfl ?_)
                                      · exact fun w h => h.pick [6, 7, 8, 9, 10] _ rfl (by decide)
                                      · exact ⟨⟨by omega, ⟨s, hrun, .inn k (by show o1 os i = 1; omega) (by show o2 os i = k; omega) hkn (by show 1 ≤ o3 os i ∧ o3 os i ≤ 1500; omega)⟩, by simp; omega, by rw [List.map_set, hl1k, ← hl1, List.map_set, hq, List.set_set, hfk]; rfl, ⟨by simp; omega, by dsimp only; rw [hex, cI, cI, List.map_append]; rfl⟩, hsn, hsx⟩, by omega⟩
                                    · refine (oj_slice1 Try.underlying31 Try.sizeOf3 Try.zeroValue3 (fe_t rfl) (by decide) rfl (fun b8 => ⟨fun w h => h.pick [4, 5, 6, 7, 8, 9] _ rfl (by decide), ?_⟩))
                                      refine tb_one1 (i := 9) rfl (by kernel_rfl) (by kernel_rfl) (wants_none rfl) (oj_append (i := 3) (s := 1) (z := (.int .i64 0)) (bytes := 8) Try.underlying31 (by kernel_rfl) (fe_t rfl) (fe_t rfl) rfl (rdl_blk 1 rfl) rfl (by decide) (by first | exact oneI | exact oneF (fun _ => rfl) | exact fun u hu => List.all_eq_true.1 (show List.all _ (fun x => x.oneCell') = true from rfl) u hu | (intro u hu; revert u hu; simp [Value.oneCell'])) (by decide) ⟨by omega, by decide⟩ (fun Aa8 ca8 hca8 => ⟨fun w h => h.pick [4, 5, 6, 7, 8, 9] _ rfl (by decide), ?_⟩))
                                      refine tb_one1 (i := 19) rfl (by kernel_rfl) (by kernel_rfl) (wants_none rfl) (oj_append (i := 2) (s := 1) (z := (.int .i64 0)) (bytes := 8) Try.underlying31 (by kernel_rfl) (fe_t rfl) (fe_t rfl) rfl (rdl_blk 0 rfl) rfl (by decide) (by first | exact oneI | exact oneF (fun _ => rfl) | exact fun u hu => List.all_eq_true.1 (show List.all _ (fun x => x.oneCell') = true from rfl) u hu | (intro u hu; revert u hu; simp [Value.oneCell'])) (by decide) ⟨by omega, by decide⟩ (fun Aa9 ca9 hca9 => ⟨fun w h => h.pick [4, 5, 6, 7, 8, 9] _ rfl (by decide), ?_⟩))
                                      refine tb_float (i := 20) rfl (by kernel_rfl) rfl (wants_none rfl) (yq_of (y_nilCheckR (fe_t rfl) (rch_w 0 rfl (by omega)))) ?_
                                      refine tb_float (i := 21) rfl (by kernel_rfl) rfl (wants_none rfl) (yq_of (y_fieldAddrR (td := 31) Try.underlying170 rfl rfl Try.sizeOf31 rfl (fe_t rfl) (rch_w 0 rfl (by omega)))) ?_
                                      refine tb_one2 (i := 22) rfl (by kernel_rfl) (by kernel_rfl) (wants_none rfl) (oj_storeG (i := 9) Fl.nil (⟨Aa8, ca8, (l1.getD k Fl.nil).bs ++ [o3 os i], (l1.getD k Fl.nil).A2, (l1.getD k Fl.nil).c2, (l1.getD k Fl.nil).ts, (l1.getD k Fl.nil).last⟩ : Fl) hcF Try.sizeOf31 (fe_t rfl) (fe_t rfl) rfl rfl rfl (by (try rw [List.length_set]); omega) rfl (by simp [cF, Fl.bV]) (⟨fun w h => (h.weak (i := 9) rfl).pick [9, 4, 5, 6, 7, 8] _ rfl (by decide), ?_⟩))
                                      refine tb_float (i := 23) rfl (by kernel_rfl) rfl (wants_none rfl) (yq_of (y_nilCheckR (fe_t rfl) (rch_w 0 rfl (by omega)))) ?_
                                      refine tb_float (i := 24) rfl (by kernel_rfl) rfl (wants_none rfl) (yq_of (y_fieldAddrR (td := 31) Try.underlying170 rfl rfl Try.sizeOf31 rfl (fe_t rfl) (rch_w 0 rfl (by omega)))) ?_
                                      refine tb_one2 (i := 25) rfl (by kernel_rfl) (by kernel_rfl) (wants_none rfl) (oj_storeG (i := 9) Fl.nil (⟨Aa8, ca8, (l1.getD k Fl.nil).bs ++ [o3 os i], Aa9, ca9, (l1.getD k Fl.nil).ts ++ [(l1.getD k Fl.nil).last], (l1.getD k Fl.nil).last⟩ : Fl) hcF Try.sizeOf31 (fe_t rfl) (fe_t rfl) rfl rfl rfl (by (try rw [List.length_set]); omega) rfl (by rw [getD_set (by omega), if_pos rfl]; simp [cF, Fl.tV]) (⟨fun w h => (h.weak (i := 9) rfl).pick [9, 4, 5, 6, 7, 8] _ rfl (by decide), ?_⟩))
                                      refine tb_done (by kernel_rfl) ?_
                                      refine tx_in ?_
                                      refine tx_in ?_
                                      refine tx_then ?_
                                      rw [List.set_set]
                                      refine tr_subInJ 3 8 k rfl rfl rfl (map_nil_at Fl.bV (by omega)) (map_back (x := (⟨Aa8, ca8, (l1.getD k Fl.nil).bs ++ [o3 os i], Aa9, ca9, (l1.getD k Fl.nil).ts ++ [(l1.getD k Fl.nil).last], (l1.getD k Fl.nil).last⟩ : Fl)) Fl.bV (by simp [Fl.bV, Fl.tV, cI, zc])) ?_
                                      refine tr_subInJ 2 7 k rfl rfl rfl (map_nil_at Fl.tV (by omega)) (map_back (x := (⟨Aa8, ca8, (l1.getD k Fl.nil).bs ++ [o3 os i], Aa9, ca9, (l1.getD k Fl.nil).ts ++ [(l1.getD k Fl.nil).last], (l1.getD k Fl.nil).last⟩ : Fl)) Fl.tV (by simp [Fl.bV, Fl.tV, cI, zc])) ?_
                                      refine tr_region ?_
                                      refine tl_step rfl (oj_val (y_move (fe_t rfl)) ?_)
                                      refine tl_step rfl (oj_val (y_move (fe_t rfl)) ?_)
                                      refine tl_step rfl (oj_slice1 Try.underlying102 Try.sizeOf26 Try.zeroValue26 (fe_t rfl) (by decide) rfl (fun b9 => ?_))
                                      refine tl_step rfl (oj_append (i := 7) (s := 1) (z := (.int .i64 0)) (bytes := 8) Try.underlying102 (by kernel_rfl) (fe_t rfl) (fe_t rfl) rfl (rdl_blk 0 rfl) rfl (by decide) (by first | exact oneI | exact oneF (fun _ => rfl) | exact fun u hu => List.all_eq_true.1 (show List.all _ (fun x => x.oneCell') = true from rfl) u hu | (intro u hu; revert u hu; simp [Value.oneCell'])) (by decide) ⟨by omega, by decide⟩ (fun Aa10 ca10 hca10 => ?_))
                                      refine tl_step rfl (oj_val (y_assign (fe_t rfl)) ?_)
                                      refine tl_nil ?_
                                      refine tx_in ?_
                                      refine tx_then ?_
                                      refine tr_region ?_
                                      refine tl_step rfl (oj_val (y_inc (fe_t rfl) fe_c (by omega)) ?_)
                                      refine tl_step rfl (oj_val (y_move (fe_t rfl)) ?_)
                                      refine tl_nil ?_
                                      apply tx_back5 (i + 1) ({ s with errs := s.errs ++ [0], fs := s.fs.set k ⟨(fq s k).bs ++ [o3 os i], (fq s k).ts ++ [max (fq s k).last s.now + o3 os i * (27720 / ws.getD k 0)], max (fq s k).last s.now + o3 os i * (27720 / ws.getD k 0)⟩ }) (_) ((⟨_, _, _, _⟩ : Vs)) ((⟨_, _, _, _⟩ : Vs))
                                      · exact (cov_cons (by first | rfl | exact v_int (by omega) | exact v_int (by dsimp only; rw [hfk]; rfl)) (cov_cons (by first | rfl | exact v_int (by omega) | exact v_int (by dsimp only; rw [hfk]; rfl)) (cov_cons (by first | rfl | exact v_int (by omega) | exact v_int (by dsimp only; rw [hfk]; rfl)) (cov_cons (by first | rfl | exact v_int (by omega) | exact v_int (by dsimp only; rw [hfk]; rfl)) (cov_nil)))))
                                      · repeat (first | exact over_nil | refine over_put rfl ?_ | refine over_drop rfl ?_)
                                      · exact fun w h => h.pick [6, 7, 8, 9, 10] _ rfl (by decide)
                                      · exact ⟨⟨by omega, ⟨s, hrun, .inn k (by show o1 os i = 1; omega) (by show o2 os i = k; omega) hkn (by show 1 ≤ o3 os i ∧ o3 os i ≤ 1500; omega)⟩, by simp; omega, by rw [List.map_set, hl1k, ← hl1, List.map_set, hq, List.set_set, hfk]; rfl, ⟨by simp; omega, by dsimp only; rw [hex, cI, cI, List.map_append]; rfl⟩, hsn, hsx⟩, by omega⟩
                                  · refine (oj_slice1 Try.underlying31 Try.sizeOf3 Try.zeroValue3 (fe_t rfl) (by decide) rfl (fun b10 => ⟨fun w h => h.pick [3, 4, 5, 6, 7, 8] _ rfl (by decide), ?_⟩))
                                    refine tb_one1 (i := 8) rfl (by kernel_rfl) (by kernel_rfl) (wants_none rfl) (oj_slice1 Try.underlying31 Try.sizeOf3 Try.zeroValue3 (fe_t rfl) (by decide) rfl (fun b11 => ⟨fun w h => h.pick [4, 5, 6, 7, 8, 9] _ rfl (by decide), ?_⟩))
                                    refine tb_one1 (i := 9) rfl (by kernel_rfl) (by kernel_rfl) (wants_none rfl) (oj_append (i := 3) (s := 1) (z := (.int .i64 0)) (bytes := 8) Try.underlying31 (by kernel_rfl) (fe_t rfl) (fe_t rfl) rfl (rdl_blk 0 rfl) rfl (by decide) (by first | exact oneI | exact oneF (fun _ => rfl) | exact fun u hu => List.all_eq_true.1 (show List.all _ (fun x => x.oneCell') = true from rfl) u hu | (intro u hu; revert u hu; simp [Value.oneCell'])) (by decide) ⟨by omega, by decide⟩ (fun Aa11 ca11 hca11 => ⟨fun w h => h.pick [4, 5, 6, 7, 8, 9] _ rfl (by decide), ?_⟩))
                                    refine tb_one1 (i := 19) rfl (by kernel_rfl) (by kernel_rfl) (wants_none rfl) (oj_append (i := 2) (s := 1) (z := (.int .i64 0)) (bytes := 8) Try.underlying31 (by kernel_rfl) (fe_t rfl) (fe_t rfl) rfl (rdl_blk 1 rfl) rfl (by decide) (by first | exact oneI | exact oneF (fun _ => rfl) | exact fun u hu => List.all_eq_true.1 (show List.all _ (fun x => x.oneCell') = true from rfl) u hu | (intro u hu; revert u hu; simp [Value.oneCell'])) (by decide) ⟨by omega, by decide⟩ (fun Aa12 ca12 hca12 => ⟨fun w h => h.pick [4, 5, 6, 7, 8, 9] _ rfl (by decide), ?_⟩))
                                    refine tb_float (i := 20) rfl (by kernel_rfl) rfl (wants_none rfl) (yq_of (y_nilCheckR (fe_t rfl) (rch_w 0 rfl (by omega)))) ?_
                                    refine tb_float (i := 21) rfl (by kernel_rfl) rfl (wants_none rfl) (yq_of (y_fieldAddrR (td := 31) Try.underlying170 rfl rfl Try.sizeOf31 rfl (fe_t rfl) (rch_w 0 rfl (by omega)))) ?_
                                    refine tb_one2 (i := 22) rfl (by kernel_rfl) (by kernel_rfl) (wants_none rfl) (oj_storeG (i := 9) Fl.nil (⟨Aa11, ca11, (l1.getD k Fl.nil).bs ++ [o3 os i], (l1.getD k Fl.nil).A2, (l1.getD k Fl.nil).c2, (l1.getD k Fl.nil).ts, (l1.getD k Fl.nil).last⟩ : Fl) hcF Try.sizeOf31 (fe_t rfl) (fe_t rfl) rfl rfl rfl (by (try rw [List.length_set]); omega) rfl (by simp [cF, Fl.bV]) (⟨fun w h => (h.weak (i := 9) rfl).pick [9, 4, 5, 6, 7, 8] _ rfl (by decide), ?_⟩))
                                    refine tb_float (i := 23) rfl (by kernel_rfl) rfl (wants_none rfl) (yq_of (y_nilCheckR (fe_t rfl) (rch_w 0 rfl (by omega)))) ?_
                                    refine tb_float (i := 24) rfl (by kernel_rfl) rfl (wants_none rfl) (yq_of (y_fieldAddrR (td := 31) Try.underlying170 rfl rfl Try.sizeOf31 rfl (fe_t rfl) (rch_w 0 rfl (by omega)))) ?_
                                    refine tb_one2 (i := 25) rfl (by kernel_rfl) (by kernel_rfl) (wants_none rfl) (oj_storeG (i := 9) Fl.nil (⟨Aa11, ca11, (l1.getD k Fl.nil).bs ++ [o3 os i], Aa12, ca12, (l1.getD k Fl.nil).ts ++ [(l1.getD k Fl.nil).last], (l1.getD k Fl.nil).last⟩ : Fl) hcF Try.sizeOf31 (fe_t rfl) (fe_t rfl) rfl rfl rfl (by (try rw [List.length_set]); omega) rfl (by rw [getD_set (by omega), if_pos rfl]; simp [cF, Fl.tV]) (⟨fun w h => (h.weak (i := 9) rfl).pick [9, 4, 5, 6, 7, 8] _ rfl (by decide), ?_⟩))
                                    refine tb_done (by kernel_rfl) ?_
                                    refine tx_in ?_
                                    refine tx_in ?_
                                    refine tx_then ?_
                                    rw [List.set_set]
                                    refine tr_subInJ 3 8 k rfl rfl rfl (map_nil_at Fl.bV (by omega)) (map_back (x := (⟨Aa11, ca11, (l1.getD k Fl.nil).bs ++ [o3 os i], Aa12, ca12, (l1.getD k Fl.nil).ts ++ [(l1.getD k Fl.nil).last], (l1.getD k Fl.nil).last⟩ : Fl)) Fl.bV (by simp [Fl.bV, Fl.tV, cI, zc])) ?_
                                    refine tr_subInJ 2 7 k rfl rfl rfl (map_nil_at Fl.tV (by omega)) (map_back (x := (⟨Aa11, ca11, (l1.getD k Fl.nil).bs ++ [o3 os i], Aa12, ca12, (l1.getD k Fl.nil).ts ++ [(l1.getD k Fl.nil).last], (l1.getD k Fl.nil).last⟩ : Fl)) Fl.tV (by simp [Fl.bV, Fl.tV, cI, zc])) ?_
                                    refine tr_region ?_
                                    refine tl_step rfl (oj_val (y_move (fe_t rfl)) ?_)
                                    refine tl_step rfl (oj_val (y_move (fe_t rfl)) ?_)
                                    refine tl_step rfl (oj_slice1 Try.underlying102 Try.sizeOf26 Try.zeroValue26 (fe_t rfl) (by decide) rfl (fun b12 => ?_))
                                    refine tl_step rfl (oj_append (i := 7) (s := 1) (z := (.int .i64 0)) (bytes := 8) Try.underlying102 (by kernel_rfl) (fe_t rfl) (fe_t rfl) rfl (rdl_blk 0 rfl) rfl (by decide) (by first | exact oneI | exact oneF (fun _ => rfl) | exact fun u hu => List.all_eq_true.1 (show List.all _ (fun x => x.oneCell') = true from rfl) u hu | (intro u hu; revert u hu; simp [Value.oneCell'])) (by decide) ⟨by omega, by decide⟩ (fun Aa13 ca13 hca13 => ?_))
                                    refine tl_step rfl (oj_val (y_assign (fe_t rfl)) ?_)
                                    refine tl_nil ?_
                                    refine tx_in ?_
                                    refine tx_then ?_
                                    refine tr_region ?_
                                    refine tl_step rfl (oj_val (y_inc (fe_t rfl) fe_c (by omega)) ?_)
                                    refine tl_step rfl (oj_val (y_move (fe_t rfl)) ?_)
                                    refine tl_nil ?_
                                    apply tx_back5 (i + 1) ({ s with errs := s.errs ++ [0], fs := s.fs.set k ⟨(fq s k).bs ++ [o3 os i], (fq s k).ts ++ [max (fq s k).last s.now + o3 os i * (27720 / ws.getD k 0)], max (fq s k).last s.now + o3 os i * (27720 / ws.getD k 0)⟩ }) (_) ((⟨_, _, _, _⟩ : Vs)) ((⟨_, _, _, _⟩ : Vs))
                                    · exact (cov_cons (by first | rfl | exact v_int (by omega) | exact v_int (by dsimp only; rw [hfk]; rfl)) (cov_cons (by first | rfl | exact v_int (by omega) | exact v_int (by dsimp only; rw [hfk]; rfl)) (cov_cons (by first | rfl | exact v_int (by omega) | exact v_int (by dsimp only; rw [hfk]; rfl)) (cov_cons (by first | rfl | exact v_int (by omega) | exact v_int (by dsimp only; rw [hfk]; rfl)) (cov_nil)))))
                                    · repeat (first | exact over_nil | refine over_put rfl ?_ | refine over_drop rfl ?_)
                                    · exact fun w h => h.pick [6, 7, 8, 9, 10] _ rfl (by decide)
                                    · exact ⟨⟨by omega, ⟨s, hrun, .inn k (by show o1 os i = 1; omega) (by show o2 os i = k; omega) hkn (by show 1 ≤ o3 os i ∧ o3 os i ≤ 1500; omega)⟩, by simp; omega, by rw [List.map_set, hl1k, ← hl1, List.map_set, hq, List.set_set, hfk]; rfl, ⟨by simp; omega, by dsimp only; rw [hex, cI, cI, List.map_append]; rfl⟩, hsn, hsx⟩, by omega⟩
              · try (exfalso; omega)
                all_goals
                  refine tr_seq ?_
                  refine tr_region ?_
                  refine tl_step rfl (oj_val (y_eq (fe_t rfl) fe_c) ?_)
                  refine tl_step rfl (oj_val (y_assign (fe_t rfl)) ?_)
                  refine tl_nil ?_
                  refine tx_then ?_
                  refine tr_condp (fe_t rfl) (fun hq17 => ?_) (fun hq18 => ?_)
                  · try (exfalso; omega)
                    all_goals
                      refine tr_seq ?_
                      refine tr_region ?_
                      refine tl_step rfl (oj_val (y_assign fe_c) ?_)
                      refine tl_nil ?_
                      refine tx_then ?_
                      refine tr_seq ?_
                      refine tr_seq ?_
                      refine tr_region ?_
                      refine tl_step rfl (oj_val (y_move (fe_t rfl)) ?_)
                      refine tl_step rfl (oj_val (y_len Try.underlying165 (fe_t rfl)) ?_)
                      refine tl_step rfl (oj_val (y_move fe_c) ?_)
                      refine tl_nil ?_
                      refine tx_then ?_
                      refine tr_block ?_
                      refine tr_loop2 [17, 18, 19, 116, 117, 118, 119, 120, 121, 122, 123, 124, 125, 126, 127, 128, 129, 130, 131, 132, 133, 134, 135, 136, 137, 138, 139, 140, 141, 142, 143, 144] (fun (k : Nat) (b : Int) => [(116, .int .i64 (k : Int)), (17, .int .i64 b)]) 0 (fun (k : Nat) (b : Int) => []) (fun (k : Nat) (b : Int) => k ≤ n ∧ Bst l k b) (fun (k : Nat) (b : Int) => n - k) (0) (-1) (cov_cons (by first | rfl | exact v_int (by omega) | exact v_int (by dsimp only; rw [hfk]; rfl)) (cov_cons (by first | rfl | exact v_int (by omega) | exact v_int (by dsimp only; rw [hfk]; rfl)) (cov_nil))) (fun w h => h) ?_ ?_
                      · try dsimp only
                        exact ⟨by omega, bst_zero l⟩
                      intro k b hp
                      obtain ⟨hk, hb⟩ := hp
                      have hbc := hb.cases
                      refine tr_seq ?_
                      refine tr_region ?_
                      refine tl_step rfl (oj_val (y_lss (fe_t rfl) (fe_t rfl)) ?_)
                      refine tl_nil ?_
                      refine tx_then ?_
                      refine tr_seq ?_
                      refine tr_condp (fe_t rfl) (fun hq19 => ?_) (fun hq20 => ?_)
                      · try (exfalso; omega)
                        all_goals
                          refine tr_skip ?_
                          refine tx_then ?_
                          refine tr_seq ?_
                          refine tr_block ?_
                          refine tr_seq ?_
                          refine tr_region ?_
                          refine tl_step rfl (oj_val (y_move (fe_t rfl)) ?_)
                          refine tl_step rfl (oj_val (y_index Try.underlying165 Try.sizeOf170 (fe_t rfl) (fe_t rfl) (rdl_vec 5 rfl) (by rw [flat_len hcF]; omega) (by decide) (by omega) rfl) ?_)
                          refine tl_step rfl (oj_val (y_ldA (cs := cF (l.getD k Fl.nil)) Try.isAgg170 Try.sizeOf170 (fe_t rfl) (rdl_vec 5 rfl) rfl (by decide) (flatGA (d := Fl.nil) hcF (by omega))) ?_)
                          refine tl_step rfl (oj_alloc Try.zeroValue170 (fun bf => ?_))
                          refine tl_step rfl (oj_val (y_assign (fe_t rfl)) ?_)
                          refine tl_step rfl (oj_storeW 0 Try.sizeOf170 (fe_t rfl) (fe_t rfl) rfl rfl rfl rfl rfl (?_))
                          refine tl_nil ?_
                          refine tx_then ?_
                          refine tr_seq ?_
                          refine tr_norm (L' := [_, _, _, _, _, _, _]) (fun w h => h.pick [0, 1, 2, 3, 4, 5, 6] _ rfl (by decide)) ?_
                          refine tb_draw1 22 [_, _, _, _, _, _, _] [_, _, _, _, _, _, _] (fun w h => h.pick [0, 1, 2, 3, 4, 5, 6] _ rfl (by decide)) (fun w h => h.pick [0, 1, 2, 3, 4, 5, 6] _ rfl (by decide)) rfl ?_
                          refine tb_float (i := 0) rfl (by kernel_rfl) rfl (wants_none rfl) (yq_of (y_fieldAddr (td := 31) Try.underlying170 rfl rfl Try.sizeOf31 (o' := 1) rfl (fe_t rfl))) ?_
                          refine tb_float (i := 1) rfl (by kernel_rfl) rfl (wants_none rfl) (yq_of (y_ldb 0 Try.isAgg31 (fe_t rfl) rfl rfl)) ?_
                          refine tb_float (i := 2) rfl (by kernel_rfl) rfl (wants_none rfl) (yq_of (y_len Try.underlying31 (fe_t rfl))) ?_
                          refine tb_float (i := 3) rfl (by kernel_rfl) rfl (wants_none rfl) (yq_of (y_gtr (fe_t rfl) fe_c)) ?_
                          refine tb_float (i := 4) rfl (by kernel_rfl) rfl (wants_none rfl) (yq_of (y_move (fe_t rfl))) ?_
                          refine tb_splitp (d := 125) rfl (fun hq21 => ?_) (fun hq22 => ?_)
                          · try (exfalso; omega)
                            all_goals
                              refine tb_float (i := 5) rfl (by kernel_rfl) rfl (wants_t rfl rfl rfl) (yq_of (y_move (fe_t rfl))) ?_
                              refine tb_float (i := 6) rfl (by kernel_rfl) rfl (wants_t rfl rfl rfl) (yq_of (y_lss (fe_t rfl) fe_c)) ?_
                              refine tb_float (i := 7) rfl (by kernel_rfl) rfl (wants_t rfl rfl rfl) (yq_of (y_move (fe_t rfl))) ?_
                              refine tb_splitp (d := 128) rfl (fun hq23 => ?_) (fun hq24 => ?_)
                              · try (exfalso; omega)
                                all_goals
                                  refine tb_skip (i := 8) rfl (by kernel_rfl) rfl (wants_f rfl rfl rfl rfl) ?_
                                  refine tb_skip (i := 9) rfl (by kernel_rfl) rfl (wants_f rfl rfl rfl rfl) ?_
                                  refine tb_skip (i := 10) rfl (by kernel_rfl) rfl (wants_f rfl rfl rfl rfl) ?_
                                  refine tb_skip (i := 11) rfl (by kernel_rfl) rfl (wants_f rfl rfl rfl rfl) ?_
                                  refine tb_skip (i := 12) rfl (by kernel_rfl) rfl (wants_f rfl rfl rfl rfl) ?_
                                  refine tb_skip (i := 13) rfl (by kernel_rfl) rfl (wants_f rfl rfl rfl rfl) ?_
                                  refine tb_skip (i := 14) rfl (by kernel_rfl) rfl (wants_f rfl rfl rfl rfl) ?_
                                  refine tb_skip (i := 15) rfl (by kernel_rfl) rfl (wants_f rfl rfl rfl rfl) ?_
                                  refine tb_skip (i := 16) rfl (by kernel_rfl) rfl (wants_f rfl rfl rfl rfl) ?_
                                  refine tb_skip (i := 17) rfl (by kernel_rfl) rfl (wants_f rfl rfl rfl rfl) ?_
                                  refine tb_skip (i := 18) rfl (by kernel_rfl) rfl (wants_f rfl rfl rfl rfl) ?_
                                  refine tb_skip (i := 19) rfl (by kernel_rfl) rfl (wants_f rfl rfl rfl rfl) ?_
                                  refine tb_float (i := 20) rfl (by kernel_rfl) rfl (wants_t rfl rfl rfl) (yq_of (y_pickt (fe_t rfl) fe_c)) ?_
                                  refine tb_float (i := 21) rfl (by kernel_rfl) rfl (wants_none rfl) (yq_of (y_pickt (fe_t rfl) (fe_t rfl))) ?_
                                  refine tb_done (by kernel_rfl) ?_
                                  refine tx_then ?_
                                  refine tr_condt (fe_t rfl) ?_
                                  refine tr_region ?_
                                  refine tl_step rfl (oj_val (y_move (fe_t rfl)) ?_)
                                  refine tl_step rfl (oj_val (y_assign (fe_t rfl)) ?_)
                                  refine tl_nil ?_
                                  refine tx_in ?_
                                  refine tx_then ?_
                                  refine tr_region ?_
                                  refine tl_step rfl (oj_val (y_inc (fe_t rfl) fe_c (by omega)) ?_)
                                  refine tl_step rfl (oj_val (y_move (fe_t rfl)) ?_)
                                  refine tl_nil ?_
                                  apply tx_back2 (k + 1) ((k : Int))
                                  · exact (cov_cons (by first | rfl | exact v_int (by omega) | exact v_int (by dsimp only; rw [hfk]; rfl)) (cov_cons (by first | rfl | exact v_int (by omega) | exact v_int (by dsimp only; rw [hfk]; rfl)) (cov_nil)))
                                  · repeat (first | exact over_nil | refine over_put rfl ?_ | refine over_drop rfl ?_)
                                  · exact fun w h => h.pick [1, 2, 3, 4, 5, 6] _ rfl (by decide)
                                  · first
                                      | exact ⟨⟨by omega, hb.take (by omega) (by omega)⟩, by omega⟩
                                      | exact ⟨⟨by omega, hb.skip (by omega)⟩, by omega⟩
                                      | exact ⟨⟨by omega, hb.keep (by omega) (by omega)⟩, by omega⟩
                              · try (exfalso; omega)
                                all_goals
                                  refine tb_float (i := 8) rfl (by kernel_rfl) rfl (wants_t rfl rfl rfl) (yq_of (y_fieldAddr (td := 31) Try.underlying170 rfl rfl Try.sizeOf31 (o' := 1) rfl (fe_t rfl))) ?_
                                  refine tb_float (i := 9) rfl (by kernel_rfl) rfl (wants_t rfl rfl rfl) (yq_of (y_ldb 0 Try.isAgg31 (fe_t rfl) rfl rfl)) ?_
                                  refine tb_float (i := 10) rfl (by kernel_rfl) rfl (wants_t rfl rfl rfl) (yq_of (y_indexI (m := 0) Try.underlying31 Try.sizeOf3 (fe_t rfl) fe_c (subG (f := Fl.tV) (d := Fl.nil) 4 rfl (by omega)) (by simp [Fl.tV, cI]) (by decide) (by decide) (by omega) rfl)) ?_
                                  refine tb_float (i := 11) rfl (by kernel_rfl) rfl (wants_t rfl rfl rfl) (yq_of (y_ld Try.isAgg3 (fe_t rfl) (subG (f := Fl.tV) (d := Fl.nil) 4 rfl (by omega)) (hdI (by omega)))) ?_
                                  refine tb_float (i := 12) rfl (by kernel_rfl) rfl (wants_t rfl rfl rfl) (yq_of (y_move (fe_t rfl))) ?_
                                  refine tb_float (i := 13) rfl (by kernel_rfl) rfl (wants_t rfl rfl rfl) (yq_of (y_move (fe_t rfl))) ?_
                                  refine tb_float (i := 14) rfl (by kernel_rfl) rfl (wants_t rfl rfl rfl) (yq_of (y_indexI Try.underlying165 Try.sizeOf170 (fe_t rfl) (fe_t rfl) (rdl_vec 6 rfl) (by rw [flat_len hcF]; omega) (by decide) (by omega) (by omega) rfl)) ?_
                                  refine tb_float (i := 15) rfl (by kernel_rfl) rfl (wants_t rfl rfl rfl) (yq_of (y_fieldAddrE (td := 31) Try.underlying170 rfl rfl Try.sizeOf31 rfl (fe_t rfl) (rdl_vec 6 rfl) (by rw [flat_len hcF]; omega))) ?_
                                  refine tb_float (i := 16) rfl (by kernel_rfl) rfl (wants_t rfl rfl rfl) (yq_of (y_ld Try.isAgg31 (fe_t rfl) (rdl_vec 6 rfl) (flatG (d := Fl.nil) (i := 1) hcF (by omega) rfl))) ?_
                                  refine tb_float (i := 17) rfl (by kernel_rfl) rfl (wants_t rfl rfl rfl) (yq_of (y_indexI (m := 0) Try.underlying31 Try.sizeOf3 (fe_t rfl) fe_c (subG (f := Fl.tV) (d := Fl.nil) 4 rfl (by omega)) (by simp [Fl.tV, cI]) (by decide) (by decide) (by omega) rfl)) ?_
                                  refine tb_float (i := 18) rfl (by kernel_rfl) rfl (wants_t rfl rfl rfl) (yq_of (y_ld Try.isAgg3 (fe_t rfl) (subG (f := Fl.tV) (d := Fl.nil) 4 rfl (by omega)) (hdI (by omega)))) ?_
                                  refine tb_float (i := 19) rfl (by kernel_rfl) rfl (wants_t rfl rfl rfl) (yq_of (y_lss (fe_t rfl) (fe_t rfl))) ?_
                                  refine tb_float (i := 20) rfl (by kernel_rfl) rfl (wants_t rfl rfl rfl) (yq_of (y_pickf (fe_t rfl) (fe_t rfl))) ?_
                                  refine tb_float (i := 21) rfl (by kernel_rfl) rfl (wants_none rfl) (yq_of (y_pickt (fe_t rfl) (fe_t rfl))) ?_
                                  refine tb_done (by kernel_rfl) ?_
                                  refine tx_then ?_
                                  refine tr_condp (fe_t rfl) (fun hq25 => ?_) (fun hq26 => ?_)
                                  · try (exfalso; omega)
                                    all_goals
                                      refine tr_region ?_
                                      refine tl_step rfl (oj_val (y_move (fe_t rfl)) ?_)
                                      refine tl_step rfl (oj_val (y_assign (fe_t rfl)) ?_)
                                      refine tl_nil ?_
                                      refine tx_in ?_
                                      refine tx_then ?_
                                      refine tr_region ?_
                                      refine tl_step rfl (oj_val (y_inc (fe_t rfl) fe_c (by omega)) ?_)
                                      refine tl_step rfl (oj_val (y_move (fe_t rfl)) ?_)
                                      refine tl_nil ?_
                                      apply tx_back2 (k + 1) ((k : Int))
                                      · exact (cov_cons (by first | rfl | exact v_int (by omega) | exact v_int (by dsimp only; rw [hfk]; rfl)) (cov_cons (by first | rfl | exact v_int (by omega) | exact v_int (by dsimp only; rw [hfk]; rfl)) (cov_nil)))
                                      · repeat (first | exact over_nil | refine over_put rfl ?_ | refine over_drop rfl ?_)
                                      · exact fun w h => h.pick [1, 2, 3, 4, 5, 6] _ rfl (by decide)
                                      · first
                                          | exact ⟨⟨by omega, hb.take (by omega) (by omega)⟩, by omega⟩
                                          | exact ⟨⟨by omega, hb.skip (by omega)⟩, by omega⟩
                                          | exact ⟨⟨by omega, hb.keep (by omega) (by omega)⟩, by omega⟩
                                  · try (exfalso; omega)
                                    all_goals
                                      refine tr_skip ?_
                                      refine tx_in ?_
                                      refine tx_then ?_
                                      refine tr_region ?_
                                      refine tl_step rfl (oj_val (y_inc (fe_t rfl) fe_c (by omega)) ?_)
                                      refine tl_step rfl (oj_val (y_move (fe_t rfl)) ?_)
                                      refine tl_nil ?_
                                      apply tx_back2 (k + 1) (b)
                                      · exact (cov_cons (by first | rfl | exact v_int (by omega) | exact v_int (by dsimp only; rw [hfk]; rfl)) (cov_cons (by first | rfl | exact v_int (by omega) | exact v_int (by dsimp only; rw [hfk]; rfl)) (cov_nil)))
                                      · repeat (first | exact over_nil | refine over_put rfl ?_ | refine over_drop rfl ?_)
                                      · exact fun w h => h.pick [1, 2, 3, 4, 5, 6] _ rfl (by decide)
                                      · first
                                          | exact ⟨⟨by omega, hb.take (by omega) (by omega)⟩, by omega⟩
                                          | exact ⟨⟨by omega, hb.skip (by omega)⟩, by omega⟩
                                          | exact ⟨⟨by omega, hb.keep (by omega) (by omega)⟩, by omega⟩
                          · try (exfalso; omega)
                            all_goals
                              refine tb_skip (i := 5) rfl (by kernel_rfl) rfl (wants_f rfl rfl rfl rfl) ?_
                              refine tb_skip (i := 6) rfl (by kernel_rfl) rfl (wants_f rfl rfl rfl rfl) ?_
                              refine tb_skip (i := 7) rfl (by kernel_rfl) rfl (wants_f rfl rfl rfl rfl) ?_
                              refine tb_skip (i := 8) rfl (by kernel_rfl) rfl (wants_undef rfl rfl rfl) ?_
                              refine tb_skip (i := 9) rfl (by kernel_rfl) rfl (wants_undef rfl rfl rfl) ?_
                              refine tb_skip (i := 10) rfl (by kernel_rfl) rfl (wants_undef rfl rfl rfl) ?_
                              refine tb_skip (i := 11) rfl (by kernel_rfl) rfl (wants_undef rfl rfl rfl) ?_
                              refine tb_skip (i := 12) rfl (by kernel_rfl) rfl (wants_undef rfl rfl rfl) ?_
                              refine tb_skip (i := 13) rfl (by kernel_rfl) rfl (wants_undef rfl rfl rfl) ?_
                              refine tb_skip (i := 14) rfl (by kernel_rfl) rfl (wants_undef rfl rfl rfl) ?_
                              refine tb_skip (i := 15) rfl (by kernel_rfl) rfl (wants_undef rfl rfl rfl) ?_
                              refine tb_skip (i := 16) rfl (by kernel_rfl) rfl (wants_undef rfl rfl rfl) ?_
                              refine tb_skip (i := 17) rfl (by kernel_rfl) rfl (wants_undef rfl rfl rfl) ?_
                              refine tb_skip (i := 18) rfl (by kernel_rfl) rfl (wants_undef rfl rfl rfl) ?_
                              refine tb_skip (i := 19) rfl (by kernel_rfl) rfl (wants_undef rfl rfl rfl) ?_
                              refine tb_skip (i := 20) rfl (by kernel_rfl) rfl (wants_f rfl rfl rfl rfl) ?_
                              refine tb_float (i := 21) rfl (by kernel_rfl) rfl (wants_none rfl) (yq_of (y_pickf (fe_t rfl) fe_c)) ?_
                              refine tb_done (by kernel_rfl) ?_
                              refine tx_then ?_
                              refine tr_condf (fe_t rfl) ?_
                              refine tr_skip ?_
                              refine tx_in ?_
                              refine tx_then ?_
                              refine tr_region ?_
                              refine tl_step rfl (oj_val (y_inc (fe_t rfl) fe_c (by omega)) ?_)
                              refine tl_step rfl (oj_val (y_move (fe_t rfl)) ?_)
                              refine tl_nil ?_
                              apply tx_back2 (k + 1) (b)
                              · exact (cov_cons (by first | rfl | exact v_int (by omega) | exact v_int (by dsimp only; rw [hfk]; rfl)) (cov_cons (by first | rfl | exact v_int (by omega) | exact v_int (by dsimp only; rw [hfk]; rfl)) (cov_nil)))
                              · repeat (first | exact over_nil | refine over_put rfl ?_ | refine over_drop rfl ?_)
                              · exact fun w h => h.pick [1, 2, 3, 4, 5, 6] _ rfl (by decide)
                              · first
                                  | exact ⟨⟨by omega, hb.take (by omega) (by omega)⟩, by omega⟩
                                  | exact ⟨⟨by omega, hb.skip (by omega)⟩, by omega⟩
                                  | exact ⟨⟨by omega, hb.keep (by omega) (by omega)⟩, by omega⟩
                      · try (exfalso; omega)
                        all_goals
                          refine tr_exit ?_
                          refine tx_then_exit ?_
                          refine tx_then_exit ?_
                          refine tx_in_exit ?_
                          refine tx_then ?_
                          refine tr_seq ?_
                          refine tr_seq ?_
                          refine tr_region ?_
                          refine tl_step rfl (oj_val (y_move (fe_t rfl)) ?_)
                          refine tl_step rfl (oj_val (y_lss (fe_t rfl) fe_c) ?_)
                          refine tl_nil ?_
                          refine tx_then ?_
                          refine tr_condp (fe_t rfl) (fun hq27 => ?_) (fun hq28 => ?_)
                          · try (exfalso; omega)
                            all_goals
                              refine tr_seq ?_
                              refine tr_region ?_
                              refine tl_step rfl (oj_val (y_assign fe_c) ?_)
                              refine tl_nil ?_
                              refine tx_then ?_
                              refine tr_exit ?_
                              refine tx_then_exit ?_
                              refine tx_in_exit ?_
                              refine tx_then ?_
                              refine tr_region ?_
                              refine tl_step rfl (oj_val (y_move (fe_t rfl)) ?_)
                              refine tl_step rfl (oj_val (y_move (fe_t rfl)) ?_)
                              refine tl_step rfl (oj_slice1 Try.underlying102 Try.sizeOf26 Try.zeroValue26 (fe_t rfl) (by decide) rfl (fun b13 => ?_))
                              refine tl_step rfl (oj_append (i := 3) (s := 1) (z := (.int .i64 0)) (bytes := 8) Try.underlying102 (by kernel_rfl) (fe_t rfl) (fe_t rfl) rfl (rdl_blk 0 rfl) rfl (by decide) (by first | exact oneI | exact oneF (fun _ => rfl) | exact fun u hu => List.all_eq_true.1 (show List.all _ (fun x => x.oneCell') = true from rfl) u hu | (intro u hu; revert u hu; simp [Value.oneCell'])) (by decide) ⟨by omega, by decide⟩ (fun Aa14 ca14 hca14 => ?_))
                              refine tl_step rfl (oj_val (y_assign (fe_t rfl)) ?_)
                              refine tl_nil ?_
                              refine tx_in ?_
                              refine tx_then ?_
                              refine tr_region ?_
                              refine tl_step rfl (oj_val (y_inc (fe_t rfl) fe_c (by omega)) ?_)
                              refine tl_step rfl (oj_val (y_move (fe_t rfl)) ?_)
                              refine tl_nil ?_
                              apply tx_back5 (i + 1) ({ s with errs := s.errs ++ [3] }) (_) ((⟨_, _, _, _⟩ : Vs)) ((⟨_, _, _, _⟩ : Vs))
                              · exact (cov_cons (by first | rfl | exact v_int (by omega) | exact v_int (by dsimp only; rw [hfk]; rfl)) (cov_cons (by first | rfl | exact v_int (by omega) | exact v_int (by dsimp only; rw [hfk]; rfl)) (cov_cons (by first | rfl | exact v_int (by omega) | exact v_int (by dsimp only; rw [hfk]; rfl)) (cov_cons (by first | rfl | exact v_int (by omega) | exact v_int (by dsimp only; rw [hfk]; rfl)) (cov_nil)))))
                              · repeat (first | exact over_nil | refine over_put rfl ?_ | refine over_drop rfl ?_)
                              · exact fun w h => h.pick [2, 3, 4, 5, 6] _ rfl (by decide)
                              · exact ⟨⟨by omega, ⟨s, hrun, .nought (by show o1 os i = 2; omega) (fun j hj => by rw [flq hq j]; rcases hbc with ⟨_, h⟩ | ⟨h, _⟩; exact List.eq_nil_of_length_eq_zero (h j (by omega)); omega)⟩, hll, hq, ⟨by simp; omega, by dsimp only; rw [hex, cI, cI, List.map_append]; rfl⟩, hsn, hsx⟩, by omega⟩
                          · try (exfalso; omega)
                            all_goals
                              refine tr_skip ?_
                              refine tx_then ?_
                              refine tr_seq ?_
                              obtain rfl : n = k := by omega
                              obtain ⟨q, rfl⟩ : ∃ q : Nat, b = q := ⟨b.toNat, by omega⟩
                              simp only [Int.toNat_natCast] at hbc
                              have hqn : q < n := by rcases hbc with ⟨h, _⟩ | ⟨_, h, _⟩ <;> omega
                              have hqt : 0 < (l.getD q Fl.nil).ts.length := by rcases hbc with ⟨h, _⟩ | ⟨_, _, h⟩ <;> omega
                              have hfk := flq hq q
                              have hws := hwf.same q
                              rw [hfk] at hws
                              simp only [Fl.q] at hws
                              refine tr_region ?_
                              refine tl_step rfl (oj_val (y_move (fe_t rfl)) ?_)
                              refine tl_step rfl (oj_val (y_move (fe_t rfl)) ?_)
                              refine tl_step rfl (oj_val (y_index Try.underlying165 Try.sizeOf170 (fe_t rfl) (fe_t rfl) (rdl_vec 5 rfl) (by rw [flat_len hcF]; omega) (by decide) (by omega) rfl) ?_)
                              refine tl_step rfl (oj_val (y_assign (fe_t rfl)) ?_)
                              refine tl_nil ?_
                              refine tx_then ?_
                              refine tr_seq ?_
                              refine tr_region ?_
                              refine tl_step rfl (oj_val (y_move (fe_t rfl)) ?_)
                              refine tl_step rfl (oj_val (y_nilCheckE (fe_t rfl) (rdl_vec 5 rfl) (by rw [flat_len hcF]; omega)) ?_)
                              refine tl_step rfl (oj_val (y_fieldAddrE (td := 31) Try.underlying170 rfl rfl Try.sizeOf31 rfl (fe_t rfl) (rdl_vec 5 rfl) (by rw [flat_len hcF]; omega)) ?_)
                              refine tl_step rfl (oj_val (y_ld Try.isAgg31 (fe_t rfl) (rdl_vec 5 rfl) (flatG (d := Fl.nil) (i := 1) hcF (by omega) rfl)) ?_)
                              refine tl_step rfl (oj_val (y_indexI (m := 0) Try.underlying31 Try.sizeOf3 (fe_t rfl) fe_c (subG (f := Fl.tV) (d := Fl.nil) 3 rfl (by omega)) (by simp [Fl.tV, cI]) (by decide) (by decide) (by omega) rfl) ?_)
                              refine tl_step rfl (oj_val (y_ld Try.isAgg3 (fe_t rfl) (subG (f := Fl.tV) (d := Fl.nil) 3 rfl (by omega)) (hdI (by omega))) ?_)
                              refine tl_step rfl (oj_val (y_assign (fe_t rfl)) ?_)
                              refine tl_nil ?_
                              refine tx_then ?_
                              refine tr_seq ?_
                              refine tr_region ?_
                              refine tl_step rfl (oj_val (y_move (fe_t rfl)) ?_)
                              refine tl_step rfl (oj_val (y_move (fe_t rfl)) ?_)
                              refine tl_step rfl (oj_val (y_move (fe_t rfl)) ?_)
                              refine tl_step rfl (oj_val (y_nilCheckE (fe_t rfl) (rdl_vec 5 rfl) (by rw [flat_len hcF]; omega)) ?_)
                              refine tl_step rfl (oj_val (y_fieldAddrE (td := 31) Try.underlying170 rfl rfl Try.sizeOf31 rfl (fe_t rfl) (rdl_vec 5 rfl) (by rw [flat_len hcF]; omega)) ?_)
                              refine tl_step rfl (oj_val (y_ld Try.isAgg31 (fe_t rfl) (rdl_vec 5 rfl) (flatG (d := Fl.nil) (i := 0) hcF (by omega) rfl)) ?_)
                              refine tl_step rfl (oj_val (y_indexI (m := 0) Try.underlying31 Try.sizeOf3 (fe_t rfl) fe_c (subG (f := Fl.bV) (d := Fl.nil) 4 rfl (by omega)) (by simp [Fl.bV, cI]) (by decide) (by decide) (by omega) rfl) ?_)
                              refine tl_step rfl (oj_val (y_ld Try.isAgg3 (fe_t rfl) (subG (f := Fl.bV) (d := Fl.nil) 4 rfl (by omega)) (hdI (by omega))) ?_)
                              refine tl_step rfl (oj_val ((fun {u0 u1} hx hb => y_build (is := [0, 1]) (vs := [u0, u1]) (cs := [u0, u1]) rfl hx hb) (fel_cons (fe_t rfl) (fel_cons (fe_t rfl) fel_nil)) (by kernel_rfl)) ?_)
                              refine tl_step rfl (oj_slice1 Try.underlying54 Try.sizeOf64 Try.zeroValue64 (fe_t rfl) (by decide) rfl (fun b14 => ?_))
                              refine tl_step rfl (oj_append (i := 2) (s := 2) (z := (.agg #[.int .i64 0, .int .i64 0])) (bytes := 16) Try.underlying54 (by kernel_rfl) (fe_t rfl) (fe_t rfl) rfl (rdl_blk 0 rfl) rfl (by decide) (by first | exact oneI | exact oneF (fun _ => rfl) | exact fun u hu => List.all_eq_true.1 (show List.all _ (fun x => x.oneCell') = true from rfl) u hu | (intro u hu; revert u hu; simp [Value.oneCell'])) (by decide) ⟨by omega, by decide⟩ (fun Aa15 ca15 hca15 => ?_))
                              refine tl_step rfl (oj_val (y_assign (fe_t rfl)) ?_)
                              refine tl_nil ?_
                              refine tx_then ?_
                              refine tr_subCut 5 q rfl (map_at (d := Fl.nil) Fl.bV (by omega)) (by show 1 ≤ (l.getD q Fl.nil).bs.length; omega) cut_b ?_
                              refine tr_subCut 4 q rfl (map_at (d := Fl.nil) Fl.tV (by omega)) (by show 1 ≤ (l.getD q Fl.nil).ts.length; omega) cut_t ?_
                              refine tr_norm (L' := [_, _, _, _, _, _, _]) (fun w h => h.pick [0, 1, 2, 3, 4, 5, 6] _ rfl (by decide)) ?_
                              refine tb_draw1 14 [_, _, _, _, _, _, _] [_, _, _, _, _, _, _] (fun w h => h.pick [0, 1, 2, 3, 4, 5, 6] _ rfl (by decide)) (fun w h => (h.weak (i := 6) rfl).pick [6, 0, 1, 2, 3, 4, 5] _ rfl (by decide)) rfl ?_
                              refine tb_float (i := 0) rfl (by kernel_rfl) rfl (wants_none rfl) (yq_of (y_move (fe_t rfl))) ?_
                              refine tb_float (i := 1) rfl (by kernel_rfl) rfl (wants_none rfl) (yq_of (y_move (fe_t rfl))) ?_
                              refine tb_float (i := 2) rfl (by kernel_rfl) rfl (wants_none rfl) (yq_of (y_move (fe_t rfl))) ?_
                              refine tb_float (i := 3) rfl (by kernel_rfl) rfl (wants_none rfl) (yq_of (y_nilCheckR (fe_t rfl) (rch_w 0 rfl (by omega)))) ?_
                              refine tb_float (i := 4) rfl (by kernel_rfl) rfl (wants_none rfl) (yq_of (y_fieldAddrR (td := 31) Try.underlying170 rfl rfl Try.sizeOf31 rfl (fe_t rfl) (rch_w 0 rfl (by omega)))) ?_
                              refine tb_float1 (i := 5) rfl (by kernel_rfl) (by kernel_rfl) rfl (wants_none rfl) (yq_of (y_ld Try.isAgg31 (fe_t rfl) (rdl_vec 6 rfl) (flatG (d := Fl.nil) (i := 0) hcF (by omega) rfl))) ?_
                              refine tb_float (i := 6) rfl (by kernel_rfl) rfl (wants_none rfl) (yq_of (y_cutL (l := 1) Try.underlying31 Try.sizeOf3 (fe_t rfl) fe_c (by omega))) ?_
                              refine tb_float (i := 7) rfl (by kernel_rfl) rfl (wants_none rfl) (yq_of (y_move (fe_t rfl))) ?_
                              refine tb_float (i := 8) rfl (by kernel_rfl) rfl (wants_none rfl) (yq_of (y_nilCheckR (fe_t rfl) (rch_w 0 rfl (by omega)))) ?_
                              refine tb_float (i := 9) rfl (by kernel_rfl) rfl (wants_none rfl) (yq_of (y_fieldAddrR (td := 31) Try.underlying170 rfl rfl Try.sizeOf31 rfl (fe_t rfl) (rch_w 0 rfl (by omega)))) ?_
                              refine tb_float1 (i := 10) rfl (by kernel_rfl) (by kernel_rfl) rfl (wants_none rfl) (yq_of (y_ld Try.isAgg31 (fe_t rfl) (rdl_vec 6 rfl) (flatG (d := Fl.nil) (i := 1) hcF (by omega) rfl))) ?_
                              refine tb_float (i := 11) rfl (by kernel_rfl) rfl (wants_none rfl) (yq_of (y_cutL (l := 1) Try.underlying31 Try.sizeOf3 (fe_t rfl) fe_c (by omega))) ?_
                              refine tb_float (i := 12) rfl (by kernel_rfl) rfl (wants_none rfl) (yq_of (y_nilCheckR (fe_t rfl) (rch_w 0 rfl (by omega)))) ?_
                              refine tb_float (i := 13) rfl (by kernel_rfl) rfl (wants_none rfl) (yq_of (y_fieldAddrR (td := 31) Try.underlying170 rfl rfl Try.sizeOf31 rfl (fe_t rfl) (rch_w 0 rfl (by omega)))) ?_
                              refine tb_one2 (i := 14) rfl (by kernel_rfl) (by kernel_rfl) (wants_none rfl) (oj_storeG (i := 6) Fl.nil (⟨cutA (l.getD q Fl.nil).A1 1 (l.getD q Fl.nil).c1 1, (l.getD q Fl.nil).c1 - 1, (l.getD q Fl.nil).bs.drop 1, (l.getD q Fl.nil).A2, (l.getD q Fl.nil).c2, (l.getD q Fl.nil).ts, (l.getD q Fl.nil).last⟩ : Fl) hcF Try.sizeOf31 (fe_t rfl) (fe_t rfl) rfl rfl rfl (by (try rw [List.length_set]); omega) rfl (by simp [cF]) (⟨fun w h => (h.weak (i := 6) rfl).pick [6, 0, 1, 2, 3, 4, 5] _ rfl (by decide), ?_⟩))
                              refine tb_float (i := 15) rfl (by kernel_rfl) rfl (wants_none rfl) (yq_of (y_nilCheckR (fe_t rfl) (rch_w 0 rfl (by omega)))) ?_
                              refine tb_float (i := 16) rfl (by kernel_rfl) rfl (wants_none rfl) (yq_of (y_fieldAddrR (td := 31) Try.underlying170 rfl rfl Try.sizeOf31 rfl (fe_t rfl) (rch_w 0 rfl (by omega)))) ?_
                              refine tb_one2 (i := 17) rfl (by kernel_rfl) (by kernel_rfl) (wants_none rfl) (oj_storeG (i := 6) Fl.nil (l.getD q Fl.nil).cut hcF Try.sizeOf31 (fe_t rfl) (fe_t rfl) rfl rfl rfl (by (try rw [List.length_set]); omega) rfl (by rw [getD_set (by omega), if_pos rfl]; simp [cF, Fl.cut]) (⟨fun w h => (h.weak (i := 6) rfl).pick [6, 0, 1, 2, 3, 4, 5] _ rfl (by decide), ?_⟩))
                              refine tb_done (by kernel_rfl) ?_
                              refine tx_in ?_
                              refine tx_then ?_
                              rw [List.set_set]
                              refine tr_region ?_
                              refine tl_step rfl (oj_val (y_move (fe_t rfl)) ?_)
                              refine tl_step rfl (oj_val (y_move (fe_t rfl)) ?_)
                              refine tl_step rfl (oj_slice1 Try.underlying102 Try.sizeOf26 Try.zeroValue26 (fe_t rfl) (by decide) rfl (fun b15 => ?_))
                              refine tl_step rfl (oj_append (i := 4) (s := 1) (z := (.int .i64 0)) (bytes := 8) Try.underlying102 (by kernel_rfl) (fe_t rfl) (fe_t rfl) rfl (rdl_blk 0 rfl) rfl (by decide) (by first | exact oneI | exact oneF (fun _ => rfl) | exact fun u hu => List.all_eq_true.1 (show List.all _ (fun x => x.oneCell') = true from rfl) u hu | (intro u hu; revert u hu; simp [Value.oneCell'])) (by decide) ⟨by omega, by decide⟩ (fun Aa16 ca16 hca16 => ?_))
                              refine tl_step rfl (oj_val (y_assign (fe_t rfl)) ?_)
                              refine tl_nil ?_
                              refine tx_in ?_
                              refine tx_then ?_
                              refine tr_region ?_
                              refine tl_step rfl (oj_val (y_inc (fe_t rfl) fe_c (by omega)) ?_)
                              refine tl_step rfl (oj_val (y_move (fe_t rfl)) ?_)
                              refine tl_nil ?_
                              apply tx_back5 (i + 1) (⟨s.fs.set q ⟨(fq s q).bs.drop 1, (fq s q).ts.drop 1, (fq s q).last⟩, hd (fq s q).ts, s.errs ++ [0], s.sent ++ [((q : Int), hd (fq s q).bs)]⟩) (_) ((⟨_, _, _, _⟩ : Vs)) ((⟨_, _, _, _⟩ : Vs))
                              · exact (cov_cons (by first | rfl | exact v_int (by omega) | exact v_int (by dsimp only; rw [hfk]; rfl)) (cov_cons (by first | rfl | exact v_int (by omega) | exact v_int (by dsimp only; rw [hfk]; rfl)) (cov_cons (by first | rfl | exact v_int (by omega) | exact v_int (by dsimp only; rw [hfk]; rfl)) (cov_cons (by first | rfl | exact v_int (by omega) | exact v_int (by dsimp only; rw [hfk]; rfl)) (cov_nil)))))
                              · repeat (first | exact over_nil | refine over_put rfl ?_ | refine over_drop rfl ?_)
                              · exact fun w h => h.pick [3, 4, 5, 6, 7] _ rfl (by decide)
                              · exact ⟨⟨by omega, ⟨s, hrun, .out q (by show o1 os i = 2; omega) hqn (by rw [hfk]; exact fun h => by rw [show (l.getD q Fl.nil).ts = [] from h] at hqt; simp at hqt) (out_best hq hb)⟩, by simp; omega, by rw [List.map_set, hq, hfk]; rfl, ⟨by simp; omega, by dsimp only; rw [hex, cI, cI, List.map_append]; rfl⟩, by simp; omega, by dsimp only; rw [hsx, List.flatMap_append]; first | rfl | (rw [hfk]; rfl)⟩, by omega⟩
                  · try (exfalso; omega)
                    all_goals
                      refine tr_region ?_
                      refine tl_step rfl (oj_val (y_assign fe_c) ?_)
                      refine tl_nil ?_
                      refine tx_in ?_
                      refine tx_then ?_
                      refine tr_region ?_
                      refine tl_step rfl (oj_val (y_move (fe_t rfl)) ?_)
                      refine tl_step rfl (oj_val (y_move (fe_t rfl)) ?_)
                      refine tl_step rfl (oj_slice1 Try.underlying102 Try.sizeOf26 Try.zeroValue26 (fe_t rfl) (by decide) rfl (fun b16 => ?_))
                      refine tl_step rfl (oj_append (i := 3) (s := 1) (z := (.int .i64 0)) (bytes := 8) Try.underlying102 (by kernel_rfl) (fe_t rfl) (fe_t rfl) rfl (rdl_blk 0 rfl) rfl (by decide) (by first | exact oneI | exact oneF (fun _ => rfl) | exact fun u hu => List.all_eq_true.1 (show List.all _ (fun x => x.oneCell') = true from rfl) u hu | (intro u hu; revert u hu; simp [Value.oneCell'])) (by decide) ⟨by omega, by decide⟩ (fun Aa17 ca17 hca17 => ?_))
                      refine tl_step rfl (oj_val (y_assign (fe_t rfl)) ?_)
                      refine tl_nil ?_
                      refine tx_in ?_
                      refine tx_then ?_
                      refine tr_region ?_
                      refine tl_step rfl (oj_val (y_inc (fe_t rfl) fe_c (by omega)) ?_)
                      refine tl_step rfl (oj_val (y_move (fe_t rfl)) ?_)
                      refine tl_nil ?_
                      apply tx_back5 (i + 1) ({ s with errs := s.errs ++ [5] }) (_) ((⟨_, _, _, _⟩ : Vs)) ((⟨_, _, _, _⟩ : Vs))
                      · exact (cov_cons (by first | rfl | exact v_int (by omega) | exact v_int (by dsimp only; rw [hfk]; rfl)) (cov_cons (by first | rfl | exact v_int (by omega) | exact v_int (by dsimp only; rw [hfk]; rfl)) (cov_cons (by first | rfl | exact v_int (by omega) | exact v_int (by dsimp only; rw [hfk]; rfl)) (cov_cons (by first | rfl | exact v_int (by omega) | exact v_int (by dsimp only; rw [hfk]; rfl)) (cov_nil)))))
                      · repeat (first | exact over_nil | refine over_put rfl ?_ | refine over_drop rfl ?_)
                      · exact fun w h => h.pick [2, 3, 4, 5, 6] _ rfl (by decide)
                      · exact ⟨⟨by omega, ⟨s, hrun, .kind (by show o1 os i ≠ 1; omega) (by show o1 os i ≠ 2; omega)⟩, hll, hq, ⟨by simp; omega, by dsimp only; rw [hex, cI, cI, List.map_append]; rfl⟩, hsn, hsx⟩, by omega⟩
          · try (exfalso; omega)
            all_goals
              refine tr_exit ?_
              refine tx_then_exit ?_
              refine tx_then_exit ?_
              refine tx_in_exit ?_
              refine tx_then ?_
              refine tr_seq ?_
              refine tr_region ?_
              refine tl_step rfl (oj_val (y_assign fe_c) ?_)
              refine tl_nil ?_
              refine tx_then ?_
              refine tr_seq ?_
              refine tr_seq ?_
              refine tr_region ?_
              refine tl_step rfl (oj_val (y_move (fe_t rfl)) ?_)
              refine tl_step rfl (oj_val (y_len Try.underlying165 (fe_t rfl)) ?_)
              refine tl_step rfl (oj_val (y_move fe_c) ?_)
              refine tl_nil ?_
              refine tx_then ?_
              refine tr_block ?_
              refine tr_add (r := vec 3 1 (.slice none 0 0) 0 []) vec_nil rfl ?_
              refine tr_loop2 [21, 23, 190, 191, 192, 193, 194, 195, 196, 197, 198, 199, 200] (fun (k : Nat) (z1 : Vs) => [(190, .int .i64 (k : Int)), (21, .slice z1.A z1.n z1.c)]) 0 (fun (k : Nat) (z1 : Vs) => [(0, vec 3 1 (.slice z1.A z1.n z1.c) z1.n z1.xs)]) (fun (k : Nat) (z1 : Vs) => k ≤ n ∧ z1.n = k ∧ z1.xs = cI ((left s).take k)) (fun (k : Nat) (z1 : Vs) => n - k) (0) (⟨none, 0, 0, []⟩ : Vs) (cov_cons (by first | rfl | exact v_int (by omega) | exact v_int (by dsimp only; rw [hfk]; rfl)) (cov_cons (by first | rfl | exact v_int (by omega) | exact v_int (by dsimp only; rw [hfk]; rfl)) (cov_nil))) (fun w h => h) ?_ ?_
              · try dsimp only
                exact ⟨by omega, rfl, rfl⟩
              intro k z1 hp
              obtain ⟨hk, hzn, hzx⟩ := hp
              refine tr_seq ?_
              refine tr_region ?_
              refine tl_step rfl (oj_val (y_lss (fe_t rfl) (fe_t rfl)) ?_)
              refine tl_nil ?_
              refine tx_then ?_
              refine tr_seq ?_
              refine tr_condp (fe_t rfl) (fun hq29 => ?_) (fun hq30 => ?_)
              · try (exfalso; omega)
                all_goals
                  refine tr_skip ?_
                  refine tx_then ?_
                  refine tr_seq ?_
                  refine tr_block ?_
                  refine tr_seq ?_
                  refine tr_region ?_
                  refine tl_step rfl (oj_val (y_index Try.underlying165 Try.sizeOf170 (fe_t rfl) (fe_t rfl) (rdl_vec 5 rfl) (by rw [flat_len hcF]; omega) (by decide) (by omega) rfl) ?_)
                  refine tl_step rfl (oj_val (y_ldA (cs := cF (l.getD k Fl.nil)) Try.isAgg170 Try.sizeOf170 (fe_t rfl) (rdl_vec 5 rfl) rfl (by decide) (flatGA (d := Fl.nil) hcF (by omega))) ?_)
                  refine tl_step rfl (oj_alloc Try.zeroValue170 (fun bg => ?_))
                  refine tl_step rfl (oj_storeW 0 Try.sizeOf170 (fe_t rfl) (fe_t rfl) rfl rfl rfl rfl rfl (?_))
                  refine tl_nil ?_
                  refine tx_then ?_
                  refine tr_region ?_
                  refine tl_step rfl (oj_val (y_move (fe_t rfl)) ?_)
                  refine tl_step rfl (oj_val (y_fieldAddr (td := 31) Try.underlying170 rfl rfl Try.sizeOf31 (o' := 1) rfl (fe_t rfl)) ?_)
                  refine tl_step rfl (oj_val (y_ldb 0 Try.isAgg31 (fe_t rfl) rfl rfl) ?_)
                  refine tl_step rfl (oj_val (y_len Try.underlying31 (fe_t rfl)) ?_)
                  refine tl_step rfl (oj_slice1 Try.underlying31 Try.sizeOf3 Try.zeroValue3 (fe_t rfl) (by decide) rfl (fun b17 => ?_))
                  refine tl_step rfl (oj_append (i := 2) (s := 1) (z := (.int .i64 0)) (bytes := 8) Try.underlying31 (by kernel_rfl) (fe_t rfl) (fe_t rfl) rfl (rdl_blk 0 rfl) rfl (by decide) (by first | exact oneI | exact oneF (fun _ => rfl) | exact fun u hu => List.all_eq_true.1 (show List.all _ (fun x => x.oneCell') = true from rfl) u hu | (intro u hu; revert u hu; simp [Value.oneCell'])) (by decide) ⟨by omega, by decide⟩ (fun Aa18 ca18 hca18 => ?_))
                  refine tl_step rfl (oj_val (y_assign (fe_t rfl)) ?_)
                  refine tl_nil ?_
                  refine tx_in ?_
                  refine tx_then ?_
                  refine tr_region ?_
                  refine tl_step rfl (oj_val (y_inc (fe_t rfl) fe_c (by omega)) ?_)
                  refine tl_step rfl (oj_val (y_move (fe_t rfl)) ?_)
                  refine tl_nil ?_
                  apply tx_back2 (k + 1) ((⟨_, _, _, _⟩ : Vs))
                  · exact (cov_cons (by first | rfl | exact v_int (by omega) | exact v_int (by dsimp only; rw [hfk]; rfl)) (cov_cons (by first | rfl | exact v_int (by omega) | exact v_int (by dsimp only; rw [hfk]; rfl)) (cov_nil)))
                  · repeat (first | exact over_nil | refine over_put rfl ?_ | refine over_drop rfl ?_)
                  · exact fun w h => h.pick [2, 3, 4, 5, 6, 7] _ rfl (by decide)
                  · refine ⟨⟨by omega, by dsimp only; omega, ?_⟩, by omega⟩
                    dsimp only
                    rw [hzx, left_take (by rw [hwf.len]; omega), cI, cI, List.map_append, flq hq k]
                    rfl
              · try (exfalso; omega)
                all_goals
                  refine tr_exit ?_
                  refine tx_then_exit ?_
                  refine tx_then_exit ?_
                  refine tx_in_exit ?_
                  refine tx_then ?_
                  refine tr_seq ?_
                  refine tr_region ?_
                  refine tl_step rfl (oj_val (y_move (fe_t rfl)) ?_)
                  refine tl_step rfl (oj_val (y_move (fe_t rfl)) ?_)
                  refine tl_step rfl (oj_val (y_move (fe_t rfl)) ?_)
                  refine tl_step rfl (oj_val (y_assign (fe_t rfl)) ?_)
                  refine tl_step rfl (oj_val (y_assign (fe_t rfl)) ?_)
                  refine tl_step rfl (oj_val (y_assign (fe_t rfl)) ?_)
                  refine tl_step rfl (oj_val (y_assign fe_c) ?_)
                  refine tl_nil ?_
                  refine tx_then ?_
                  refine tr_ret ?_
                  refine tx_ret (res4 Try.results55 (rok_t rfl) (rok_t rfl) (rok_t rfl) (rok_t rfl)) (fun w' hS => ?_)
                  obtain rfl : k = n := by omega
                  obtain rfl : i = m := by omega
                  exact ⟨(s, e1, s1, z1), ⟨hrun, ⟨hen, hex⟩, ⟨hsn, hsx⟩, hzn, by rw [hzx, List.take_of_length_le (by simp [left, hwf.len])]⟩, rfl, hS.pick [2, 1, 0] _ rfl (by decide)⟩

end Go.Proofs.Ytdfjeoifeladfaa.Scfq
