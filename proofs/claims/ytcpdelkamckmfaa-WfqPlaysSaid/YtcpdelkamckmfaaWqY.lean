/- wfq.Play. -/
import Derived.Test.YtcpdelkamckmfaaWqO
namespace Go.Proofs.Ytcpdelkamckmfaa.Wfq
open Go.RowKit Go.Proofs.Ytcpdelkamckmfaa.E Go.Proofs.Ytcpdelkamckmfaa.Scfq

set_option maxRecDepth 100000 in
set_option maxHeartbeats 1000000 in
theorem play_badw (A : Option Addr) (n c : Nat) (ws : List Int) (B : Option Addr) (m d : Nat) (os : List O3) (w : World) (hr : Rd w A (ws.map (.int .i64))) (hn : ws.length = n) (hm : n ≤ 140737488355328) (hr2 : Rd w B (os.flatMap c3)) (hn2 : os.length = m) (hm2 : m ≤ 140737488355328) (hw : ¬ wrongOf ws = 0) :
    Calls Try.prog 67 #[.slice A n c, .slice B m d] w fun e w' => e = .returned (.tuple #[.slice none 0 0, .slice none 0 0, .slice none 0 0, (.int .i64 (wrongOf ws))]) ∧ St w w' [] := by
  refine calls_tr Try.func67 Try.ntmps67 rfl rfl (St.refl _) ?_
  refine tr_seq ?_
  refine tr_region ?_
  refine tl_step rfl (oj_val (y_assign fe_c) ?_)
  refine tl_step rfl (oj_val (y_assign fe_c) ?_)
  refine tl_step rfl (oj_val (y_assign fe_c) ?_)
  refine tl_step rfl (oj_val (y_assign fe_c) ?_)
  refine tl_nil ?_
  refine tx_then ?_
  refine tr_seq ?_
  refine tr_seq ?_
  refine tr_region ?_
  refine tl_step rfl (oj_val (y_move (fe_t rfl)) ?_)
  refine tl_step rfl (oj_callv Try.call69 fe_f (fel_cons (fe_t rfl) fel_nil) (fun w' hS => wrongE A n c ws w' (Rd.below hr hS.below) hn hm) ?_)
  refine tl_step rfl (oj_val (y_assign (fe_t rfl)) ?_)
  refine tl_nil ?_
  refine tx_then ?_
  refine tr_seq ?_
  refine tr_region ?_
  refine tl_step rfl (oj_val (y_move (fe_t rfl)) ?_)
  refine tl_step rfl (oj_val (y_neq (fe_t rfl) fe_c) ?_)
  refine tl_nil ?_
  refine tx_then ?_
  refine tr_condp (fe_t rfl) (fun hq1 => ?_) (fun hq2 => ?_)
  · try (exfalso; omega)
    all_goals
      refine tr_seq ?_
      refine tr_region ?_
      refine tl_step rfl (oj_val (y_move (fe_t rfl)) ?_)
      refine tl_step rfl (oj_val (y_assign fe_c) ?_)
      refine tl_step rfl (oj_val (y_assign fe_c) ?_)
      refine tl_step rfl (oj_val (y_assign fe_c) ?_)
      refine tl_step rfl (oj_val (y_assign (fe_t rfl)) ?_)
      refine tl_nil ?_
      refine tx_then ?_
      refine tr_ret ?_
      refine tx_then_ret ?_
      refine tx_ret (res4 Try.results67 (rok_t rfl) (rok_t rfl) (rok_t rfl) (rok_t rfl)) (fun w' hS => ?_)
      exact ⟨rfl, hS.pick [] _ rfl (by decide)⟩
  · exact absurd hw (by simpa using hq2)

set_option maxRecDepth 100000 in
set_option maxHeartbeats 1000000 in
theorem play_bado (A : Option Addr) (n c : Nat) (ws : List Int) (B : Option Addr) (m d : Nat) (os : List O3) (w : World) (hr : Rd w A (ws.map (.int .i64))) (hn : ws.length = n) (hm : n ≤ 140737488355328) (hr2 : Rd w B (os.flatMap c3)) (hn2 : os.length = m) (hm2 : m ≤ 140737488355328) (hw : wrongOf ws = 0) (hb : 400 < m) :
    Calls Try.prog 67 #[.slice A n c, .slice B m d] w fun e w' => e = .returned (.tuple #[.slice none 0 0, .slice none 0 0, .slice none 0 0, (.int .i64 2)]) ∧ St w w' [] := by
  refine calls_tr Try.func67 Try.ntmps67 rfl rfl (St.refl _) ?_
  refine tr_seq ?_
  refine tr_region ?_
  refine tl_step rfl (oj_val (y_assign fe_c) ?_)
  refine tl_step rfl (oj_val (y_assign fe_c) ?_)
  refine tl_step rfl (oj_val (y_assign fe_c) ?_)
  refine tl_step rfl (oj_val (y_assign fe_c) ?_)
  refine tl_nil ?_
  refine tx_then ?_
  refine tr_seq ?_
  refine tr_seq ?_
  refine tr_region ?_
  refine tl_step rfl (oj_val (y_move (fe_t rfl)) ?_)
  refine tl_step rfl (oj_callv Try.call69 fe_f (fel_cons (fe_t rfl) fel_nil) (fun w' hS => wrongE A n c ws w' (Rd.below hr hS.below) hn hm) ?_)
  refine tl_step rfl (oj_val (y_assign (fe_t rfl)) ?_)
  refine tl_nil ?_
  refine tx_then ?_
  refine tr_seq ?_
  refine tr_region ?_
  refine tl_step rfl (oj_val (y_move (fe_t rfl)) ?_)
  refine tl_step rfl (oj_val (y_neq (fe_t rfl) fe_c) ?_)
  refine tl_nil ?_
  refine tx_then ?_
  refine tr_condp (fe_t rfl) (fun hq1 => ?_) (fun hq2 => ?_)
  · exact absurd hw hq1
  · try (exfalso; omega)
    all_goals
      refine tr_skip ?_
      refine tx_then ?_
      refine tr_seq ?_
      refine tr_seq ?_
      refine tr_region ?_
      refine tl_step rfl (oj_val (y_move (fe_t rfl)) ?_)
      refine tl_step rfl (oj_val (y_len Try.underlying91 (fe_t rfl)) ?_)
      refine tl_step rfl (oj_val (y_gtr (fe_t rfl) fe_c) ?_)
      refine tl_nil ?_
      refine tx_then ?_
      refine tr_condp (fe_t rfl) (fun hq3 => ?_) (fun hq4 => ?_)
      · try (exfalso; omega)
        all_goals
          refine tr_seq ?_
          refine tr_region ?_
          refine tl_step rfl (oj_val (y_assign fe_c) ?_)
          refine tl_step rfl (oj_val (y_assign fe_c) ?_)
          refine tl_step rfl (oj_val (y_assign fe_c) ?_)
          refine tl_step rfl (oj_val (y_assign fe_c) ?_)
          refine tl_nil ?_
          refine tx_then ?_
          refine tr_ret ?_
          refine tx_then_ret ?_
          refine tx_ret (res4 Try.results67 (rok_t rfl) (rok_t rfl) (rok_t rfl) (rok_t rfl)) (fun w' hS => ?_)
          exact ⟨rfl, hS.pick [] _ rfl (by decide)⟩
      · exfalso; omega

theorem sumw_succ {ws : List Int} {k : Nat} (h : k < ws.length) : sumw (ws.take (k + 1)) = sumw (ws.take k) + ws.getD k 0 := by
  induction ws generalizing k with
  | nil => simp at h
  | cons w l ih =>
    cases k with
    | zero => simp [sumw]
    | succ k =>
      have := ih (k := k) (by simpa using h)
      simp only [List.take_succ_cons, sumw, List.getD_cons_succ] at this ⊢
      omega
theorem sumw_take {ws : List Int} (h16 : ws.length ≤ 16) (hw : ∀ k, k < ws.length → 1 ≤ ws.getD k 0 ∧ ws.getD k 0 ≤ 12) : ∀ k : Nat, 0 ≤ sumw (ws.take k) ∧ sumw (ws.take k) ≤ 12 * (min k ws.length : Nat)
  | 0 => by simp [sumw]
  | k + 1 => by
    have h1 := sumw_take h16 hw k
    by_cases hk : k < ws.length
    · have h2 := hw k hk
      rw [sumw_succ hk]
      omega
    · rw [List.take_of_length_le (by omega)] at h1 ⊢
      omega
theorem left_take {s : S} {k : Nat} (h : k < s.fs.length) : (left s).take (k + 1) = (left s).take k ++ [((gq s.fs k).bs.length : Int)] := by
  have hl : k < (left s).length := by simpa [left] using h
  rw [List.take_succ_eq_append_getElem hl]
  congr 2
  simp only [left, List.getElem_map, gq]
  rw [getD_lt h]
set_option maxRecDepth 100000 in
set_option maxHeartbeats 8000000 in
theorem play_ok (A : Option Addr) (n c : Nat) (ws : List Int) (B : Option Addr) (m d : Nat) (os : List O3) (w : World) (hr : Rd w A (ws.map (.int .i64))) (hn : ws.length = n) (hm : n ≤ 140737488355328) (hr2 : Rd w B (os.flatMap c3)) (hn2 : os.length = m) (hm2 : m ≤ 140737488355328) (hw : wrongOf ws = 0) (hmo : m ≤ 400) :
    Calls Try.prog 67 #[.slice A n c, .slice B m d] w fun e w' => ∃ r : S × Vs × Vs × Vs, (Run ws os n m r.1 ∧ (r.2.1.n = r.1.errs.length ∧ r.2.1.xs = cI r.1.errs) ∧ (r.2.2.1.n = r.1.sent.length ∧ r.2.2.1.xs = r.1.sent.flatMap c2) ∧ r.2.2.2.n = n ∧ r.2.2.2.xs = cI (left r.1)) ∧ e = .returned (.tuple #[.slice r.2.1.A r.2.1.n r.2.1.c, .slice r.2.2.1.A r.2.2.1.n r.2.2.1.c, .slice r.2.2.2.A r.2.2.2.n r.2.2.2.c, (.int .i64 0)]) ∧ St w w' [vec 24 1 (.slice r.2.1.A r.2.1.n r.2.1.c) r.2.1.n r.2.1.xs, vec 102 2 (.slice r.2.2.1.A r.2.2.1.n r.2.2.1.c) r.2.2.1.n r.2.2.1.xs, vec 3 1 (.slice r.2.2.2.A r.2.2.2.n r.2.2.2.c) r.2.2.2.n r.2.2.2.xs] := by
  obtain ⟨hn16, hgw0⟩ := wrong_ok hw
  refine calls_tr Try.func67 Try.ntmps67 rfl rfl (St.refl _) ?_
  refine tr_seq ?_
  refine tr_region ?_
  refine tl_step rfl (oj_val (y_assign fe_c) ?_)
  refine tl_step rfl (oj_val (y_assign fe_c) ?_)
  refine tl_step rfl (oj_val (y_assign fe_c) ?_)
  refine tl_step rfl (oj_val (y_assign fe_c) ?_)
  refine tl_nil ?_
  refine tx_then ?_
  refine tr_seq ?_
  refine tr_seq ?_
  refine tr_region ?_
  refine tl_step rfl (oj_val (y_move (fe_t rfl)) ?_)
  refine tl_step rfl (oj_callv Try.call69 fe_f (fel_cons (fe_t rfl) fel_nil) (fun w' hS => wrongE A n c ws w' (Rd.below hr hS.below) hn hm) ?_)
  refine tl_step rfl (oj_val (y_assign (fe_t rfl)) ?_)
  refine tl_nil ?_
  refine tx_then ?_
  refine tr_seq ?_
  refine tr_region ?_
  refine tl_step rfl (oj_val (y_move (fe_t rfl)) ?_)
  refine tl_step rfl (oj_val (y_neq (fe_t rfl) fe_c) ?_)
  refine tl_nil ?_
  refine tx_then ?_
  refine tr_condp (fe_t rfl) (fun hq1 => ?_) (fun hq2 => ?_)
  · exact absurd hw hq1
  · try (exfalso; omega)
    all_goals
      refine tr_skip ?_
      refine tx_then ?_
      refine tr_seq ?_
      refine tr_seq ?_
      refine tr_region ?_
      refine tl_step rfl (oj_val (y_move (fe_t rfl)) ?_)
      refine tl_step rfl (oj_val (y_len Try.underlying91 (fe_t rfl)) ?_)
      refine tl_step rfl (oj_val (y_gtr (fe_t rfl) fe_c) ?_)
      refine tl_nil ?_
      refine tx_then ?_
      refine tr_condp (fe_t rfl) (fun hq3 => ?_) (fun hq4 => ?_)
      · exfalso; omega
      · try (exfalso; omega)
        all_goals
          refine tr_skip ?_
          refine tx_then ?_
          refine tr_seq ?_
          refine tr_region ?_
          refine tl_step rfl (oj_val (y_move (fe_t rfl)) ?_)
          refine tl_step rfl (oj_val (y_move (fe_t rfl)) ?_)
          refine tl_step rfl (oj_val (y_len Try.underlying79 (fe_t rfl)) ?_)
          refine tl_step rfl (oj_makeF (z0 := Fl.nil) (c := cF) (n := n) (cs := [.slice none 0 0, (.int .i64 0), (.int .i64 0)]) (s := 3) (bytes := 40) Try.underlying170 (by kernel_rfl) (fe_t rfl) (fe_t rfl) rfl rfl (by decide) ⟨by omega, by decide⟩ (fun g => ?_))
          refine tl_step rfl (oj_val ((fun {u0 u1} hx hb => y_build (is := [0, 1]) (vs := [u0, u1]) (cs := [u0, u1, .int .i64 0, .int .i64 0]) rfl hx hb) (fel_cons (fe_t rfl) (fel_cons (fe_t rfl) fel_nil)) (by kernel_rfl)) ?_)
          refine tl_step rfl (oj_box (fe_t rfl) (fun nd => ?_))
          refine tl_step rfl (oj_val (y_assign (fe_t rfl)) ?_)
          refine tl_nil ?_
          refine tx_then ?_
          refine tr_seq ?_
          refine tr_seq ?_
          refine tr_region ?_
          refine tl_step rfl (oj_val (y_move (fe_t rfl)) ?_)
          refine tl_step rfl (oj_val (y_len Try.underlying79 (fe_t rfl)) ?_)
          refine tl_step rfl (oj_val (y_move fe_c) ?_)
          refine tl_nil ?_
          refine tx_then ?_
          refine tr_block ?_
          refine tr_loop2 [11, 38, 39, 40, 41, 42, 43, 44, 45, 46, 47, 48, 49, 50] (fun (k : Nat) (z : Int) => [(38, .int .i64 (k : Int))]) 0 (fun (k : Nat) (z : Int) => [(0, blk nd [.slice A n c, .slice (some ⟨g, 0, none⟩) n n, (.int .i64 z), (.int .i64 0)])]) (fun (k : Nat) (z : Int) => k ≤ n ∧ z = sumw (ws.take k)) (fun (k : Nat) (z : Int) => n - k) (0) (0) (cov_cons (by first | rfl | exact v_int (by omega) | exact v_int (by dsimp only; omega)) (cov_nil)) (fun w h => h) ?_ ?_
          · try dsimp only
            exact ⟨by omega, rfl⟩
          intro k z hp
          obtain ⟨hk, hz⟩ := hp
          have hzb := sumw_take hn16 hgw0 k
          refine tr_seq ?_
          refine tr_region ?_
          refine tl_step rfl (oj_val (y_lss (fe_t rfl) (fe_t rfl)) ?_)
          refine tl_nil ?_
          refine tx_then ?_
          refine tr_seq ?_
          refine tr_condp (fe_t rfl) (fun hq5 => ?_) (fun hq6 => ?_)
          · try (exfalso; omega)
            all_goals
              refine tr_skip ?_
              refine tx_then ?_
              refine tr_seq ?_
              refine tr_block ?_
              refine tr_seq ?_
              refine tr_region ?_
              refine tl_step rfl (oj_val (y_index Try.underlying79 Try.sizeOf3 (fe_t rfl) (fe_t rfl) (rdl_out hr) (by simp; omega) (by decide) (by omega) (Nat.mul_one _)) ?_)
              refine tl_step rfl (oj_val (y_ld Try.isAgg3 (fe_t rfl) (rdl_out hr) (getW (by omega))) ?_)
              refine tl_step rfl (oj_val (y_assign (fe_t rfl)) ?_)
              refine tl_nil ?_
              refine tx_then ?_
              have hwk0 := hgw0 k (by omega)
              refine tr_region ?_
              refine tl_step rfl (oj_val (y_move (fe_t rfl)) ?_)
              refine tl_step rfl (oj_val (y_nilCheck (fe_t rfl)) ?_)
              refine tl_step rfl (oj_val (y_fieldAddr (td := 3) Try.underlying172 rfl rfl Try.sizeOf3 (o' := 2) rfl (fe_t rfl)) ?_)
              refine tl_step rfl (oj_val (y_ldb 0 Try.isAgg3 (fe_t rfl) rfl rfl) ?_)
              refine tl_step rfl (oj_val (y_move (fe_t rfl)) ?_)
              refine tl_step rfl (oj_val (y_add (fe_t rfl) (fe_t rfl) (by omega)) ?_)
              refine tl_step rfl (oj_val (y_nilCheck (fe_t rfl)) ?_)
              refine tl_step rfl (oj_val (y_fieldAddr (td := 3) Try.underlying172 rfl rfl Try.sizeOf3 (o' := 2) rfl (fe_t rfl)) ?_)
              refine tl_step rfl (oj_store1 0 Try.sizeOf3 (fe_t rfl) (fe_t rfl) rfl rfl rfl rfl (?_))
              refine tl_nil ?_
              refine tx_in ?_
              refine tx_then ?_
              refine tr_region ?_
              refine tl_step rfl (oj_val (y_inc (fe_t rfl) fe_c (by omega)) ?_)
              refine tl_step rfl (oj_val (y_move (fe_t rfl)) ?_)
              refine tl_nil ?_
              apply tx_back2 (k + 1) (_)
              · exact (cov_cons (by first | rfl | exact v_int (by omega) | exact v_int (by dsimp only; omega)) (cov_nil))
              · repeat (first | exact over_nil | refine over_put rfl ?_ | refine over_drop rfl ?_)
              · exact fun w h => h.pick [0, 1] _ rfl (by decide)
              · exact ⟨⟨by omega, by rw [hz, sumw_succ (by omega)]⟩, by omega⟩
          · try (exfalso; omega)
            all_goals
              refine tr_exit ?_
              refine tx_then_exit ?_
              refine tx_then_exit ?_
              refine tx_in_exit ?_
              refine tx_then ?_
              refine tr_seq ?_
              obtain rfl : n = k := by omega
              rw [List.take_of_length_le (by omega)] at hz
              subst hz
              refine tr_add (r := subs 3 1 ((List.replicate n Fl.nil).map Fl.bV)) (by rw [nil_map (f := Fl.bV) rfl]; exact subs_nils) (by rw [nil_map (f := Fl.bV) rfl]; exact subs_nils_foot) ?_
              have hgw : ∀ k, k < n → 1 ≤ ws.getD k 0 ∧ ws.getD k 0 ≤ 12 := fun k hk => hgw0 k (by omega)
              have hn16' : n ≤ 16 := by omega
              have hsm : 0 ≤ sumw ws ∧ sumw ws ≤ 192 := by have := sumw_bd hgw0; omega
              refine tr_region ?_
              refine tl_step rfl (oj_val (y_assign fe_c) ?_)
              refine tl_nil ?_
              refine tx_then ?_
              refine tr_seq ?_
              refine tr_region ?_
              refine tl_step rfl (oj_val (y_assign fe_c) ?_)
              refine tl_nil ?_
              refine tx_then ?_
              refine tr_seq ?_
              refine tr_seq ?_
              refine tr_region ?_
              refine tl_step rfl (oj_val (y_move (fe_t rfl)) ?_)
              refine tl_step rfl (oj_val (y_len Try.underlying91 (fe_t rfl)) ?_)
              refine tl_step rfl (oj_val (y_move fe_c) ?_)
              refine tl_nil ?_
              refine tx_then ?_
              refine tr_block ?_
              refine tr_add (r := vec 24 1 (.slice none 0 0) 0 []) vec_nil rfl ?_
              refine tr_add (r := vec 102 2 (.slice none 0 0) 0 []) vec_nil rfl ?_
              refine tr_loop5 [12, 13, 15, 16, 17, 18, 53, 54, 55, 56, 57, 58, 59, 60, 61, 62, 63, 64, 65, 66, 67, 68, 69, 70, 71, 72, 73, 74, 75, 76, 77, 78, 79, 80, 81, 82, 83, 84, 85, 86, 87, 88, 89, 90, 91, 92, 93, 94, 95, 96, 97, 98, 99, 100, 101, 102, 103, 104, 105, 106, 107, 108, 109, 110] (fun (i : Nat) (s : S) (l : List Fl) (e1 : Vs) (s1 : Vs) => [(53, .int .i64 (i : Int)), (12, .slice e1.A e1.n e1.c), (13, .slice s1.A s1.n s1.c)]) 0 (fun (i : Nat) (s : S) (l : List Fl) (e1 : Vs) (s1 : Vs) => [(3, blk nd [.slice A n c, .slice (some ⟨g, 0, none⟩) n n, (.int .i64 (sumw ws)), (.int .i64 s.time)]), (4, vec 179 3 (.slice (some ⟨g, 0, none⟩) n n) n (l.flatMap cF)), (2, subs 3 1 (l.map Fl.bV)), (1, vec 24 1 (.slice e1.A e1.n e1.c) e1.n e1.xs), (0, vec 102 2 (.slice s1.A s1.n s1.c) s1.n s1.xs)]) (fun (i : Nat) (s : S) (l : List Fl) (e1 : Vs) (s1 : Vs) => i ≤ m ∧ Run ws os n i s ∧ l.length = n ∧ l.map Fl.q = s.fs ∧ (e1.n = s.errs.length ∧ e1.xs = cI s.errs) ∧ s1.n = s.sent.length ∧ s1.xs = s.sent.flatMap c2) (fun (i : Nat) (s : S) (l : List Fl) (e1 : Vs) (s1 : Vs) => m - i) (0) (⟨List.replicate n Q.nil, 0, [], []⟩) (List.replicate n Fl.nil) (⟨none, 0, 0, []⟩ : Vs) (⟨none, 0, 0, []⟩ : Vs) (cov_cons (by first | rfl | exact v_int (by omega) | exact v_int (by dsimp only; omega)) (cov_cons (by first | rfl | exact v_int (by omega) | exact v_int (by dsimp only; omega)) (cov_cons (by first | rfl | exact v_int (by omega) | exact v_int (by dsimp only; omega)) (cov_nil)))) (fun w h => h) ?_ ?_
              · try dsimp only
                exact ⟨by omega, rfl, by simp, by simp [Fl.q, Fl.nil, Q.nil], ⟨rfl, rfl⟩, rfl, rfl⟩
              intro i s l e1 s1 hp
              obtain ⟨hi, hrun, hll, hq, ⟨hen, hex⟩, hsn, hsx⟩ := hp
              have hwf := run_wf hn hn16' hgw hrun
              have hnw := hwf.time
              have hel := hwf.errs
              have hsl := hwf.sent
              refine tr_seq ?_
              refine tr_region ?_
              refine tl_step rfl (oj_val (y_lss (fe_t rfl) (fe_t rfl)) ?_)
              refine tl_nil ?_
              refine tx_then ?_
              refine tr_seq ?_
              refine tr_condp (fe_t rfl) (fun hq7 => ?_) (fun hq8 => ?_)
              · try (exfalso; omega)
                all_goals
                  refine tr_skip ?_
                  refine tx_then ?_
                  refine tr_seq ?_
                  refine tr_block ?_
                  refine tr_seq ?_
                  refine tr_region ?_
                  refine tl_step rfl (oj_val (y_index Try.underlying91 Try.sizeOf174 (fe_t rfl) (fe_t rfl) (rdl_out hr2) (lenO hn2) (by decide) (by omega) rfl) ?_)
                  refine tl_step rfl (oj_val (y_ldA (cs := [(.int .i64 (o1 os i)), (.int .i64 (o2 os i)), (.int .i64 (o3 os i))]) Try.isAgg174 Try.sizeOf174 (fe_t rfl) (rdl_out hr2) rfl (by decide) (getO (by omega))) ?_)
                  refine tl_step rfl (oj_alloc Try.zeroValue174 (fun bo => ?_))
                  refine tl_step rfl (oj_storeW 0 Try.sizeOf174 (fe_t rfl) (fe_t rfl) rfl rfl rfl rfl rfl (?_))
                  refine tl_nil ?_
                  refine tx_then ?_
                  refine tr_seq ?_
                  refine tr_region ?_
                  refine tl_step rfl (oj_val (y_assign fe_c) ?_)
                  refine tl_nil ?_
                  refine tx_then ?_
                  refine tr_seq ?_
                  refine tr_block ?_
                  refine tr_seq ?_
                  refine tr_region ?_
                  refine tl_step rfl (oj_val (y_fieldAddr (td := 3) Try.underlying174 rfl rfl Try.sizeOf3 (o' := 0) rfl (fe_t rfl)) ?_)
                  refine tl_step rfl (oj_val (y_ldb 0 Try.isAgg3 (fe_t rfl) rfl rfl) ?_)
                  refine tl_step rfl (oj_val (y_neq (fe_t rfl) fe_c) ?_)
                  refine tl_step rfl (oj_val (y_move (fe_t rfl)) ?_)
                  refine tl_splitp (d := 67) rfl (fun hq9 => ?_) (fun hq10 => ?_)
                  · try (exfalso; omega)
                    all_goals
                      refine tl_want rfl rfl rfl (oj_val (y_fieldAddr (td := 3) Try.underlying174 rfl rfl Try.sizeOf3 (o' := 0) rfl (fe_t rfl)) ?_)
                      refine tl_want rfl rfl rfl (oj_val (y_ldb 0 Try.isAgg3 (fe_t rfl) rfl rfl) ?_)
                      refine tl_want rfl rfl rfl (oj_val (y_neq (fe_t rfl) fe_c) ?_)
                      refine tl_step rfl (oj_val (y_pickt (fe_t rfl) (fe_t rfl)) ?_)
                      refine tl_step rfl (oj_val (y_assign (fe_t rfl)) ?_)
                      refine tl_nil ?_
                      refine tx_then ?_
                      refine tr_condp (fe_t rfl) (fun hq11 => ?_) (fun hq12 => ?_)
                      · try (exfalso; omega)
                        all_goals
                          refine tr_region ?_
                          refine tl_step rfl (oj_val (y_assign fe_c) ?_)
                          refine tl_nil ?_
                          refine tx_in ?_
                          refine tx_then ?_
                          refine tr_region ?_
                          refine tl_step rfl (oj_val (y_move (fe_t rfl)) ?_)
                          refine tl_step rfl (oj_val (y_move (fe_t rfl)) ?_)
                          refine tl_step rfl (oj_slice1 Try.underlying92 Try.sizeOf24 Try.zeroValue24 (fe_t rfl) (by decide) rfl (fun b1 => ?_))
                          refine tl_step rfl (oj_append (i := 3) (s := 1) (z := (.int .i64 0)) (bytes := 8) Try.underlying92 (by kernel_rfl) (fe_t rfl) (fe_t rfl) rfl (rdl_blk 0 rfl) rfl (by decide) (by first | exact oneI | exact oneF (fun _ => rfl) | exact fun u hu => List.all_eq_true.1 (show List.all _ (fun x => x.oneCell') = true from rfl) u hu | (intro u hu; revert u hu; simp [Value.oneCell'])) (by decide) ⟨by omega, by decide⟩ (fun Aa1 ca1 hca1 => ?_))
                          refine tl_step rfl (oj_val (y_assign (fe_t rfl)) ?_)
                          refine tl_nil ?_
                          refine tx_in ?_
                          refine tx_then ?_
                          refine tr_region ?_
                          refine tl_step rfl (oj_val (y_inc (fe_t rfl) fe_c (by omega)) ?_)
                          refine tl_step rfl (oj_val (y_move (fe_t rfl)) ?_)
                          refine tl_nil ?_
                          apply tx_back5 (i + 1) ({ s with errs := s.errs ++ [5] }) (_) ((⟨_, _, _, _⟩ : Vs)) ((⟨_, _, _, _⟩ : Vs))
                          · exact (cov_cons (by first | rfl | exact v_int (by omega) | exact v_int (by dsimp only; omega)) (cov_cons (by first | rfl | exact v_int (by omega) | exact v_int (by dsimp only; omega)) (cov_cons (by first | rfl | exact v_int (by omega) | exact v_int (by dsimp only; omega)) (cov_nil))))
                          · repeat (first | exact over_nil | refine over_put rfl ?_ | refine over_drop rfl ?_)
                          · exact fun w h => h.pick [2, 3, 4, 5, 6] _ rfl (by decide)
                          · exact ⟨⟨by omega, ⟨s, hrun, .kind (by show o1 os i ≠ 1; omega) (by show o1 os i ≠ 2; omega)⟩, hll, hq, ⟨by simp; omega, by dsimp only; rw [hex, cI, cI, List.map_append]; rfl⟩, hsn, hsx⟩, by omega⟩
                      · try (exfalso; omega)
                        all_goals
                          refine tr_seq ?_
                          refine tr_region ?_
                          refine tl_step rfl (oj_val (y_fieldAddr (td := 3) Try.underlying174 rfl rfl Try.sizeOf3 (o' := 0) rfl (fe_t rfl)) ?_)
                          refine tl_step rfl (oj_val (y_ldb 0 Try.isAgg3 (fe_t rfl) rfl rfl) ?_)
                          refine tl_step rfl (oj_val (y_eq (fe_t rfl) fe_c) ?_)
                          refine tl_step rfl (oj_val (y_assign (fe_t rfl)) ?_)
                          refine tl_nil ?_
                          refine tx_then ?_
                          refine tr_condp (fe_t rfl) (fun hq13 => ?_) (fun hq14 => ?_)
                          · try (exfalso; omega)
                            all_goals
                              refine tr_seq ?_
                              refine tr_region ?_
                              refine tl_step rfl (oj_val (y_move (fe_t rfl)) ?_)
                              refine tl_step rfl (oj_call2 Try.call139 fe_f (fel_cons (fe_t rfl) fel_nil) (fun w' hS => outE (hS.pick [4, 5, 3, 0, 1, 2] [_, _, _, _, _, _] rfl (by decide)) hr hn hll hq hn16' (fun k => okq_mono (hwf.ok k) (by omega)) hgw hsm (by omega)) (fun r1 hX => ?_))
                              refine tl_step rfl (oj_val (y_move (fe_t rfl)) ?_)
                              refine tl_step rfl (oj_val (y_extract (fe_t rfl) rfl) ?_)
                              refine tl_step rfl (oj_val (y_extract (fe_t rfl) rfl) ?_)
                              refine tl_step rfl (oj_alloc Try.zeroValue102 (fun bs => ?_))
                              refine tl_step rfl (oj_storeW 0 Try.sizeOf102 (fe_t rfl) (fe_t rfl) rfl rfl rfl rfl rfl (?_))
                              refine tl_step rfl (oj_val (y_assign (fe_t rfl)) ?_)
                              refine tl_nil ?_
                              refine tx_then ?_
                              refine tr_seq ?_
                              refine tr_region ?_
                              refine tl_step rfl (oj_val (y_move (fe_t rfl)) ?_)
                              refine tl_nil ?_
                              refine tx_then ?_
                              refine tr_cond (fe_t rfl) (fun hq15 => ?_) (fun hq16 => ?_)
                              · try (exfalso; omega)
                                all_goals
                                  obtain ⟨q, lb, e2, hL, hM, e3, e4, e6⟩ : ∃ (q : Nat) (lb : Int), r1.2.1 = true ∧ Least s.fs n lb ∧ May s.fs n (max s.time lb) q ∧ r1.1 = ((q : Int), hd (gq s.fs q).bs) ∧ r1.2.2.1 = max s.time lb + hd (gq s.fs q).bs * 27720 ∧ r1.2.2.2.map Fl.q = s.fs.set q (outQ (cost ws q) (gq s.fs q)) := by
                                    rcases hX.2 with ⟨h, _⟩ | h
                                    · rw [hq15] at h; cases h
                                    · exact h
                                  have hX1 := hX.1
                                  clear hX
                                  rw [e3, e4]
                                  refine tr_region ?_
                                  refine tl_step rfl (oj_val (y_move (fe_t rfl)) ?_)
                                  refine tl_step rfl (oj_val (y_ldbA 0 Try.isAgg102 Try.sizeOf102 (fe_t rfl) rfl rfl rfl) ?_)
                                  refine tl_step rfl (oj_slice1 Try.underlying93 Try.sizeOf102 Try.zeroValue102 (fe_t rfl) (by decide) rfl (fun b2 => ?_))
                                  refine tl_step rfl (oj_append (i := 6) (s := 2) (z := (.agg #[.int .i64 0, .int .i64 0])) (bytes := 16) Try.underlying93 (by kernel_rfl) (fe_t rfl) (fe_t rfl) rfl (rdl_blk 0 rfl) rfl (by decide) (by first | exact oneI | exact oneF (fun _ => rfl) | exact fun u hu => List.all_eq_true.1 (show List.all _ (fun x => x.oneCell') = true from rfl) u hu | (intro u hu; revert u hu; simp [Value.oneCell'])) (by decide) ⟨by omega, by decide⟩ (fun Aa2 ca2 hca2 => ?_))
                                  refine tl_step rfl (oj_val (y_assign (fe_t rfl)) ?_)
                                  refine tl_nil ?_
                                  refine tx_in ?_
                                  refine tx_then ?_
                                  refine tr_region ?_
                                  refine tl_step rfl (oj_val (y_move (fe_t rfl)) ?_)
                                  refine tl_step rfl (oj_val (y_move (fe_t rfl)) ?_)
                                  refine tl_step rfl (oj_slice1 Try.underlying92 Try.sizeOf24 Try.zeroValue24 (fe_t rfl) (by decide) rfl (fun b3 => ?_))
                                  refine tl_step rfl (oj_append (i := 8) (s := 1) (z := (.int .i64 0)) (bytes := 8) Try.underlying92 (by kernel_rfl) (fe_t rfl) (fe_t rfl) rfl (rdl_blk 0 rfl) rfl (by decide) (by first | exact oneI | exact oneF (fun _ => rfl) | exact fun u hu => List.all_eq_true.1 (show List.all _ (fun x => x.oneCell') = true from rfl) u hu | (intro u hu; revert u hu; simp [Value.oneCell'])) (by decide) ⟨by omega, by decide⟩ (fun Aa3 ca3 hca3 => ?_))
                                  refine tl_step rfl (oj_val (y_assign (fe_t rfl)) ?_)
                                  refine tl_nil ?_
                                  refine tx_in ?_
                                  refine tx_then ?_
                                  refine tr_region ?_
                                  refine tl_step rfl (oj_val (y_inc (fe_t rfl) fe_c (by omega)) ?_)
                                  refine tl_step rfl (oj_val (y_move (fe_t rfl)) ?_)
                                  refine tl_nil ?_
                                  apply tx_back5 (i + 1) (⟨s.fs.set q (outQ (cost ws q) (gq s.fs q)), max s.time lb + hd (gq s.fs q).bs * 27720, s.errs ++ [0], s.sent ++ [((q : Int), hd (gq s.fs q).bs)]⟩) (_) ((⟨_, _, _, _⟩ : Vs)) ((⟨_, _, _, _⟩ : Vs))
                                  · exact (cov_cons (by first | rfl | exact v_int (by omega) | exact v_int (by dsimp only; omega)) (cov_cons (by first | rfl | exact v_int (by omega) | exact v_int (by dsimp only; omega)) (cov_cons (by first | rfl | exact v_int (by omega) | exact v_int (by dsimp only; omega)) (cov_nil))))
                                  · repeat (first | exact over_nil | refine over_put rfl ?_ | refine over_drop rfl ?_)
                                  · exact fun w h => h.pick [7, 8, 5, 3, 4] _ rfl (by decide)
                                  · exact ⟨⟨by omega, ⟨s, hrun, .out q lb (by show o1 os i = 2; omega) hL hM⟩, hX1, e6, ⟨by simp; omega, by dsimp only; rw [hex, cI, cI, List.map_append]; rfl⟩, by simp; omega, by dsimp only; rw [hsx, List.flatMap_append]; rfl⟩, by omega⟩
                              · try (exfalso; omega)
                                all_goals
                                  obtain ⟨_, _, e3, e4, e5⟩ : r1.2.1 = false ∧ r1.1 = (0, 0) ∧ r1.2.2.1 = s.time ∧ r1.2.2.2.map Fl.q = s.fs ∧ ∀ j, j < n → (gq s.fs j).bs.length = 0 := by
                                    rcases hX.2 with h | ⟨_, _, h, _⟩
                                    · exact h
                                    · rw [hq16] at h; cases h
                                  have hX1 := hX.1
                                  clear hX
                                  rw [e3]
                                  refine tr_region ?_
                                  refine tl_step rfl (oj_val (y_assign fe_c) ?_)
                                  refine tl_nil ?_
                                  refine tx_in ?_
                                  refine tx_then ?_
                                  refine tr_region ?_
                                  refine tl_step rfl (oj_val (y_move (fe_t rfl)) ?_)
                                  refine tl_step rfl (oj_val (y_move (fe_t rfl)) ?_)
                                  refine tl_step rfl (oj_slice1 Try.underlying92 Try.sizeOf24 Try.zeroValue24 (fe_t rfl) (by decide) rfl (fun b4 => ?_))
                                  refine tl_step rfl (oj_append (i := 7) (s := 1) (z := (.int .i64 0)) (bytes := 8) Try.underlying92 (by kernel_rfl) (fe_t rfl) (fe_t rfl) rfl (rdl_blk 0 rfl) rfl (by decide) (by first | exact oneI | exact oneF (fun _ => rfl) | exact fun u hu => List.all_eq_true.1 (show List.all _ (fun x => x.oneCell') = true from rfl) u hu | (intro u hu; revert u hu; simp [Value.oneCell'])) (by decide) ⟨by omega, by decide⟩ (fun Aa4 ca4 hca4 => ?_))
                                  refine tl_step rfl (oj_val (y_assign (fe_t rfl)) ?_)
                                  refine tl_nil ?_
                                  refine tx_in ?_
                                  refine tx_then ?_
                                  refine tr_region ?_
                                  refine tl_step rfl (oj_val (y_inc (fe_t rfl) fe_c (by omega)) ?_)
                                  refine tl_step rfl (oj_val (y_move (fe_t rfl)) ?_)
                                  refine tl_nil ?_
                                  apply tx_back5 (i + 1) ({ s with errs := s.errs ++ [3] }) (_) ((⟨_, _, _, _⟩ : Vs)) ((⟨_, _, _, _⟩ : Vs))
                                  · exact (cov_cons (by first | rfl | exact v_int (by omega) | exact v_int (by dsimp only; omega)) (cov_cons (by first | rfl | exact v_int (by omega) | exact v_int (by dsimp only; omega)) (cov_cons (by first | rfl | exact v_int (by omega) | exact v_int (by dsimp only; omega)) (cov_nil))))
                                  · repeat (first | exact over_nil | refine over_put rfl ?_ | refine over_drop rfl ?_)
                                  · exact fun w h => h.pick [6, 7, 4, 2, 3] _ rfl (by decide)
                                  · exact ⟨⟨by omega, ⟨s, hrun, .nought (by show o1 os i = 2; omega) e5⟩, hX1, e4, ⟨by simp; omega, by dsimp only; rw [hex, cI, cI, List.map_append]; rfl⟩, hsn, hsx⟩, by omega⟩
                          · try (exfalso; omega)
                            all_goals
                              refine tr_seq ?_
                              refine tr_region ?_
                              refine tl_step rfl (oj_val (y_fieldAddr (td := 3) Try.underlying174 rfl rfl Try.sizeOf3 (o' := 1) rfl (fe_t rfl)) ?_)
                              refine tl_step rfl (oj_val (y_ldb 0 Try.isAgg3 (fe_t rfl) rfl rfl) ?_)
                              refine tl_step rfl (oj_val (y_lss (fe_t rfl) fe_c) ?_)
                              refine tl_step rfl (oj_val (y_move (fe_t rfl)) ?_)
                              refine tl_splitp (d := 90) rfl (fun hq17 => ?_) (fun hq18 => ?_)
                              · try (exfalso; omega)
                                all_goals
                                  refine tl_skip rfl rfl rfl rfl ?_
                                  refine tl_skip rfl rfl rfl rfl ?_
                                  refine tl_skip rfl rfl rfl rfl ?_
                                  refine tl_skip rfl rfl rfl rfl ?_
                                  refine tl_skip rfl rfl rfl rfl ?_
                                  refine tl_step rfl (oj_val (y_pickt (fe_t rfl) fe_c) ?_)
                                  refine tl_step rfl (oj_val (y_assign (fe_t rfl)) ?_)
                                  refine tl_nil ?_
                                  refine tx_then ?_
                                  refine tr_condt (fe_t rfl) ?_
                                  refine tr_region ?_
                                  refine tl_step rfl (oj_val (y_assign fe_c) ?_)
                                  refine tl_nil ?_
                                  refine tx_in ?_
                                  refine tx_then ?_
                                  refine tr_region ?_
                                  refine tl_step rfl (oj_val (y_move (fe_t rfl)) ?_)
                                  refine tl_step rfl (oj_val (y_move (fe_t rfl)) ?_)
                                  refine tl_step rfl (oj_slice1 Try.underlying92 Try.sizeOf24 Try.zeroValue24 (fe_t rfl) (by decide) rfl (fun b5 => ?_))
                                  refine tl_step rfl (oj_append (i := 3) (s := 1) (z := (.int .i64 0)) (bytes := 8) Try.underlying92 (by kernel_rfl) (fe_t rfl) (fe_t rfl) rfl (rdl_blk 0 rfl) rfl (by decide) (by first | exact oneI | exact oneF (fun _ => rfl) | exact fun u hu => List.all_eq_true.1 (show List.all _ (fun x => x.oneCell') = true from rfl) u hu | (intro u hu; revert u hu; simp [Value.oneCell'])) (by decide) ⟨by omega, by decide⟩ (fun Aa5 ca5 hca5 => ?_))
                                  refine tl_step rfl (oj_val (y_assign (fe_t rfl)) ?_)
                                  refine tl_nil ?_
                                  refine tx_in ?_
                                  refine tx_then ?_
                                  refine tr_region ?_
                                  refine tl_step rfl (oj_val (y_inc (fe_t rfl) fe_c (by omega)) ?_)
                                  refine tl_step rfl (oj_val (y_move (fe_t rfl)) ?_)
                                  refine tl_nil ?_
                                  apply tx_back5 (i + 1) ({ s with errs := s.errs ++ [3] }) (_) ((⟨_, _, _, _⟩ : Vs)) ((⟨_, _, _, _⟩ : Vs))
                                  · exact (cov_cons (by first | rfl | exact v_int (by omega) | exact v_int (by dsimp only; omega)) (cov_cons (by first | rfl | exact v_int (by omega) | exact v_int (by dsimp only; omega)) (cov_cons (by first | rfl | exact v_int (by omega) | exact v_int (by dsimp only; omega)) (cov_nil))))
                                  · repeat (first | exact over_nil | refine over_put rfl ?_ | refine over_drop rfl ?_)
                                  · exact fun w h => h.pick [2, 3, 4, 5, 6] _ rfl (by decide)
                                  · exact ⟨⟨by omega, ⟨s, hrun, .none (by show o1 os i = 1; omega) (by show o2 os i < 0 ∨ _ ≤ o2 os i; omega)⟩, hll, hq, ⟨by simp; omega, by dsimp only; rw [hex, cI, cI, List.map_append]; rfl⟩, hsn, hsx⟩, by omega⟩
                              · try (exfalso; omega)
                                all_goals
                                  refine tl_want rfl rfl rfl (oj_val (y_fieldAddr (td := 3) Try.underlying174 rfl rfl Try.sizeOf3 (o' := 1) rfl (fe_t rfl)) ?_)
                                  refine tl_want rfl rfl rfl (oj_val (y_ldb 0 Try.isAgg3 (fe_t rfl) rfl rfl) ?_)
                                  refine tl_want rfl rfl rfl (oj_val (y_move (fe_t rfl)) ?_)
                                  refine tl_want rfl rfl rfl (oj_val (y_len Try.underlying79 (fe_t rfl)) ?_)
                                  refine tl_want rfl rfl rfl (oj_val (y_geq (fe_t rfl) (fe_t rfl)) ?_)
                                  refine tl_step rfl (oj_val (y_pickf (fe_t rfl) (fe_t rfl)) ?_)
                                  refine tl_step rfl (oj_val (y_assign (fe_t rfl)) ?_)
                                  refine tl_nil ?_
                                  refine tx_then ?_
                                  refine tr_condp (fe_t rfl) (fun hq19 => ?_) (fun hq20 => ?_)
                                  · try (exfalso; omega)
                                    all_goals
                                      refine tr_region ?_
                                      refine tl_step rfl (oj_val (y_assign fe_c) ?_)
                                      refine tl_nil ?_
                                      refine tx_in ?_
                                      refine tx_then ?_
                                      refine tr_region ?_
                                      refine tl_step rfl (oj_val (y_move (fe_t rfl)) ?_)
                                      refine tl_step rfl (oj_val (y_move (fe_t rfl)) ?_)
                                      refine tl_step rfl (oj_slice1 Try.underlying92 Try.sizeOf24 Try.zeroValue24 (fe_t rfl) (by decide) rfl (fun b6 => ?_))
                                      refine tl_step rfl (oj_append (i := 3) (s := 1) (z := (.int .i64 0)) (bytes := 8) Try.underlying92 (by kernel_rfl) (fe_t rfl) (fe_t rfl) rfl (rdl_blk 0 rfl) rfl (by decide) (by first | exact oneI | exact oneF (fun _ => rfl) | exact fun u hu => List.all_eq_true.1 (show List.all _ (fun x => x.oneCell') = true from rfl) u hu | (intro u hu; revert u hu; simp [Value.oneCell'])) (by decide) ⟨by omega, by decide⟩ (fun Aa6 ca6 hca6 => ?_))
                                      refine tl_step rfl (oj_val (y_assign (fe_t rfl)) ?_)
                                      refine tl_nil ?_
                                      refine tx_in ?_
                                      refine tx_then ?_
                                      refine tr_region ?_
                                      refine tl_step rfl (oj_val (y_inc (fe_t rfl) fe_c (by omega)) ?_)
                                      refine tl_step rfl (oj_val (y_move (fe_t rfl)) ?_)
                                      refine tl_nil ?_
                                      apply tx_back5 (i + 1) ({ s with errs := s.errs ++ [3] }) (_) ((⟨_, _, _, _⟩ : Vs)) ((⟨_, _, _, _⟩ : Vs))
                                      · exact (cov_cons (by first | rfl | exact v_int (by omega) | exact v_int (by dsimp only; omega)) (cov_cons (by first | rfl | exact v_int (by omega) | exact v_int (by dsimp only; omega)) (cov_cons (by first | rfl | exact v_int (by omega) | exact v_int (by dsimp only; omega)) (cov_nil))))
                                      · repeat (first | exact over_nil | refine over_put rfl ?_ | refine over_drop rfl ?_)
                                      · exact fun w h => h.pick [2, 3, 4, 5, 6] _ rfl (by decide)
                                      · exact ⟨⟨by omega, ⟨s, hrun, .none (by show o1 os i = 1; omega) (by show o2 os i < 0 ∨ _ ≤ o2 os i; omega)⟩, hll, hq, ⟨by simp; omega, by dsimp only; rw [hex, cI, cI, List.map_append]; rfl⟩, hsn, hsx⟩, by omega⟩
                                  · try (exfalso; omega)
                                    all_goals
                                      refine tr_seq ?_
                                      refine tr_region ?_
                                      refine tl_step rfl (oj_val (y_fieldAddr (td := 3) Try.underlying174 rfl rfl Try.sizeOf3 (o' := 2) rfl (fe_t rfl)) ?_)
                                      refine tl_step rfl (oj_val (y_ldb 0 Try.isAgg3 (fe_t rfl) rfl rfl) ?_)
                                      refine tl_step rfl (oj_val (y_lss (fe_t rfl) fe_c) ?_)
                                      refine tl_step rfl (oj_val (y_move (fe_t rfl)) ?_)
                                      refine tl_splitp (d := 101) rfl (fun hq21 => ?_) (fun hq22 => ?_)
                                      · try (exfalso; omega)
                                        all_goals
                                          refine tl_skip rfl rfl rfl rfl ?_
                                          refine tl_skip rfl rfl rfl rfl ?_
                                          refine tl_skip rfl rfl rfl rfl ?_
                                          refine tl_step rfl (oj_val (y_pickt (fe_t rfl) fe_c) ?_)
                                          refine tl_step rfl (oj_val (y_assign (fe_t rfl)) ?_)
                                          refine tl_nil ?_
                                          refine tx_then ?_
                                          refine tr_condt (fe_t rfl) ?_
                                          refine tr_region ?_
                                          refine tl_step rfl (oj_val (y_assign fe_c) ?_)
                                          refine tl_nil ?_
                                          refine tx_in ?_
                                          refine tx_then ?_
                                          refine tr_region ?_
                                          refine tl_step rfl (oj_val (y_move (fe_t rfl)) ?_)
                                          refine tl_step rfl (oj_val (y_move (fe_t rfl)) ?_)
                                          refine tl_step rfl (oj_slice1 Try.underlying92 Try.sizeOf24 Try.zeroValue24 (fe_t rfl) (by decide) rfl (fun b7 => ?_))
                                          refine tl_step rfl (oj_append (i := 3) (s := 1) (z := (.int .i64 0)) (bytes := 8) Try.underlying92 (by kernel_rfl) (fe_t rfl) (fe_t rfl) rfl (rdl_blk 0 rfl) rfl (by decide) (by first | exact oneI | exact oneF (fun _ => rfl) | exact fun u hu => List.all_eq_true.1 (show List.all _ (fun x => x.oneCell') = true from rfl) u hu | (intro u hu; revert u hu; simp [Value.oneCell'])) (by decide) ⟨by omega, by decide⟩ (fun Aa7 ca7 hca7 => ?_))
                                          refine tl_step rfl (oj_val (y_assign (fe_t rfl)) ?_)
                                          refine tl_nil ?_
                                          refine tx_in ?_
                                          refine tx_then ?_
                                          refine tr_region ?_
                                          refine tl_step rfl (oj_val (y_inc (fe_t rfl) fe_c (by omega)) ?_)
                                          refine tl_step rfl (oj_val (y_move (fe_t rfl)) ?_)
                                          refine tl_nil ?_
                                          apply tx_back5 (i + 1) ({ s with errs := s.errs ++ [2] }) (_) ((⟨_, _, _, _⟩ : Vs)) ((⟨_, _, _, _⟩ : Vs))
                                          · exact (cov_cons (by first | rfl | exact v_int (by omega) | exact v_int (by dsimp only; omega)) (cov_cons (by first | rfl | exact v_int (by omega) | exact v_int (by dsimp only; omega)) (cov_cons (by first | rfl | exact v_int (by omega) | exact v_int (by dsimp only; omega)) (cov_nil))))
                                          · repeat (first | exact over_nil | refine over_put rfl ?_ | refine over_drop rfl ?_)
                                          · exact fun w h => h.pick [2, 3, 4, 5, 6] _ rfl (by decide)
                                          · exact ⟨⟨by omega, ⟨s, hrun, .range (by show o1 os i = 1; omega) (by show 0 ≤ o2 os i ∧ o2 os i < _; omega) (by show o3 os i < 1 ∨ 1500 < o3 os i; omega)⟩, hll, hq, ⟨by simp; omega, by dsimp only; rw [hex, cI, cI, List.map_append]; rfl⟩, hsn, hsx⟩, by omega⟩
                                      · try (exfalso; omega)
                                        all_goals
                                          refine tl_want rfl rfl rfl (oj_val (y_fieldAddr (td := 3) Try.underlying174 rfl rfl Try.sizeOf3 (o' := 2) rfl (fe_t rfl)) ?_)
                                          refine tl_want rfl rfl rfl (oj_val (y_ldb 0 Try.isAgg3 (fe_t rfl) rfl rfl) ?_)
                                          refine tl_want rfl rfl rfl (oj_val (y_gtr (fe_t rfl) fe_c) ?_)
                                          refine tl_step rfl (oj_val (y_pickf (fe_t rfl) (fe_t rfl)) ?_)
                                          refine tl_step rfl (oj_val (y_assign (fe_t rfl)) ?_)
                                          refine tl_nil ?_
                                          refine tx_then ?_
                                          refine tr_condp (fe_t rfl) (fun hq23 => ?_) (fun hq24 => ?_)
                                          · try (exfalso; omega)
                                            all_goals
                                              refine tr_region ?_
                                              refine tl_step rfl (oj_val (y_assign fe_c) ?_)
                                              refine tl_nil ?_
                                              refine tx_in ?_
                                              refine tx_then ?_
                                              refine tr_region ?_
                                              refine tl_step rfl (oj_val (y_move (fe_t rfl)) ?_)
                                              refine tl_step rfl (oj_val (y_move (fe_t rfl)) ?_)
                                              refine tl_step rfl (oj_slice1 Try.underlying92 Try.sizeOf24 Try.zeroValue24 (fe_t rfl) (by decide) rfl (fun b8 => ?_))
                                              refine tl_step rfl (oj_append (i := 3) (s := 1) (z := (.int .i64 0)) (bytes := 8) Try.underlying92 (by kernel_rfl) (fe_t rfl) (fe_t rfl) rfl (rdl_blk 0 rfl) rfl (by decide) (by first | exact oneI | exact oneF (fun _ => rfl) | exact fun u hu => List.all_eq_true.1 (show List.all _ (fun x => x.oneCell') = true from rfl) u hu | (intro u hu; revert u hu; simp [Value.oneCell'])) (by decide) ⟨by omega, by decide⟩ (fun Aa8 ca8 hca8 => ?_))
                                              refine tl_step rfl (oj_val (y_assign (fe_t rfl)) ?_)
                                              refine tl_nil ?_
                                              refine tx_in ?_
                                              refine tx_then ?_
                                              refine tr_region ?_
                                              refine tl_step rfl (oj_val (y_inc (fe_t rfl) fe_c (by omega)) ?_)
                                              refine tl_step rfl (oj_val (y_move (fe_t rfl)) ?_)
                                              refine tl_nil ?_
                                              apply tx_back5 (i + 1) ({ s with errs := s.errs ++ [2] }) (_) ((⟨_, _, _, _⟩ : Vs)) ((⟨_, _, _, _⟩ : Vs))
                                              · exact (cov_cons (by first | rfl | exact v_int (by omega) | exact v_int (by dsimp only; omega)) (cov_cons (by first | rfl | exact v_int (by omega) | exact v_int (by dsimp only; omega)) (cov_cons (by first | rfl | exact v_int (by omega) | exact v_int (by dsimp only; omega)) (cov_nil))))
                                              · repeat (first | exact over_nil | refine over_put rfl ?_ | refine over_drop rfl ?_)
                                              · exact fun w h => h.pick [2, 3, 4, 5, 6] _ rfl (by decide)
                                              · exact ⟨⟨by omega, ⟨s, hrun, .range (by show o1 os i = 1; omega) (by show 0 ≤ o2 os i ∧ o2 os i < _; omega) (by show o3 os i < 1 ∨ 1500 < o3 os i; omega)⟩, hll, hq, ⟨by simp; omega, by dsimp only; rw [hex, cI, cI, List.map_append]; rfl⟩, hsn, hsx⟩, by omega⟩
                                          · try (exfalso; omega)
                                            all_goals
                                              obtain ⟨k, hk⟩ : ∃ k : Nat, o2 os i = k := ⟨(o2 os i).toNat, by omega⟩
                                              have hkn : k < n := by omega
                                              have hkc := hwf.cnt k
                                              have hke := (hwf.ok k).2.1
                                              refine tr_region ?_
                                              refine tl_step rfl (oj_val (y_move (fe_t rfl)) ?_)
                                              refine tl_step rfl (oj_val (y_fieldAddr (td := 3) Try.underlying174 rfl rfl Try.sizeOf3 (o' := 1) rfl (fe_t rfl)) ?_)
                                              refine tl_step rfl (oj_val (y_ldb 0 Try.isAgg3 (fe_t rfl) rfl rfl) ?_)
                                              refine tl_step rfl (oj_val (y_fieldAddr (td := 3) Try.underlying174 rfl rfl Try.sizeOf3 (o' := 2) rfl (fe_t rfl)) ?_)
                                              refine tl_step rfl (oj_val (y_ldb 0 Try.isAgg3 (fe_t rfl) rfl rfl) ?_)
                                              refine tl_step rfl (oj_call2 Try.call140 fe_f (fel_cons (fe_t rfl) (fel_cons (fe_i hk rfl) (fel_cons (fe_t rfl) fel_nil))) (fun w' hS => inE (hS.pick [4, 5, 3, 0, 1, 2] [_, _, _, _, _, _] rfl (by decide)) hr hn hll hq (k := k) hkn (by omega) (by omega) (hgw k hkn) hsm (by omega) (by omega)) (fun l2 hI => ?_))
                                              refine tl_nil ?_
                                              refine tx_in ?_
                                              refine tx_then ?_
                                              refine tr_region ?_
                                              refine tl_step rfl (oj_val (y_move (fe_t rfl)) ?_)
                                              refine tl_step rfl (oj_val (y_move (fe_t rfl)) ?_)
                                              refine tl_step rfl (oj_slice1 Try.underlying92 Try.sizeOf24 Try.zeroValue24 (fe_t rfl) (by decide) rfl (fun b9 => ?_))
                                              refine tl_step rfl (oj_append (i := 6) (s := 1) (z := (.int .i64 0)) (bytes := 8) Try.underlying92 (by kernel_rfl) (fe_t rfl) (fe_t rfl) rfl (rdl_blk 0 rfl) rfl (by decide) (by first | exact oneI | exact oneF (fun _ => rfl) | exact fun u hu => List.all_eq_true.1 (show List.all _ (fun x => x.oneCell') = true from rfl) u hu | (intro u hu; revert u hu; simp [Value.oneCell'])) (by decide) ⟨by omega, by decide⟩ (fun Aa9 ca9 hca9 => ?_))
                                              refine tl_step rfl (oj_val (y_assign (fe_t rfl)) ?_)
                                              refine tl_nil ?_
                                              refine tx_in ?_
                                              refine tx_then ?_
                                              refine tr_region ?_
                                              refine tl_step rfl (oj_val (y_inc (fe_t rfl) fe_c (by omega)) ?_)
                                              refine tl_step rfl (oj_val (y_move (fe_t rfl)) ?_)
                                              refine tl_nil ?_
                                              apply tx_back5 (i + 1) ({ s with errs := s.errs ++ [0], fs := s.fs.set k (inQ (cost ws k) (gq s.fs k) (o3 os i) s.time) }) (_) ((⟨_, _, _, _⟩ : Vs)) ((⟨_, _, _, _⟩ : Vs))
                                              · exact (cov_cons (by first | rfl | exact v_int (by omega) | exact v_int (by dsimp only; omega)) (cov_cons (by first | rfl | exact v_int (by omega) | exact v_int (by dsimp only; omega)) (cov_cons (by first | rfl | exact v_int (by omega) | exact v_int (by dsimp only; omega)) (cov_nil))))
                                              · repeat (first | exact over_nil | refine over_put rfl ?_ | refine over_drop rfl ?_)
                                              · exact fun w h => h.pick [5, 6, 3, 1, 2] _ rfl (by decide)
                                              · exact ⟨⟨by omega, ⟨s, hrun, .inn k (by show o1 os i = 1; omega) (by show o2 os i = k; omega) hkn (by show 1 ≤ o3 os i ∧ o3 os i ≤ 1500; omega)⟩, hI.1, hI.2, ⟨by simp; omega, by dsimp only; rw [hex, cI, cI, List.map_append]; rfl⟩, hsn, hsx⟩, by omega⟩
                  · try (exfalso; omega)
                    all_goals
                      refine tl_skip rfl rfl rfl rfl ?_
                      refine tl_skip rfl rfl rfl rfl ?_
                      refine tl_skip rfl rfl rfl rfl ?_
                      refine tl_step rfl (oj_val (y_pickf (fe_t rfl) fe_c) ?_)
                      refine tl_step rfl (oj_val (y_assign (fe_t rfl)) ?_)
                      refine tl_nil ?_
                      refine tx_then ?_
                      refine tr_condf (fe_t rfl) ?_
                      refine tr_seq ?_
                      refine tr_region ?_
                      refine tl_step rfl (oj_val (y_fieldAddr (td := 3) Try.underlying174 rfl rfl Try.sizeOf3 (o' := 0) rfl (fe_t rfl)) ?_)
                      refine tl_step rfl (oj_val (y_ldb 0 Try.isAgg3 (fe_t rfl) rfl rfl) ?_)
                      refine tl_step rfl (oj_val (y_eq (fe_t rfl) fe_c) ?_)
                      refine tl_step rfl (oj_val (y_assign (fe_t rfl)) ?_)
                      refine tl_nil ?_
                      refine tx_then ?_
                      refine tr_condp (fe_t rfl) (fun hq25 => ?_) (fun hq26 => ?_)
                      · try (exfalso; omega)
                        all_goals
                          refine tr_seq ?_
                          refine tr_region ?_
                          refine tl_step rfl (oj_val (y_move (fe_t rfl)) ?_)
                          refine tl_step rfl (oj_call2 Try.call139 fe_f (fel_cons (fe_t rfl) fel_nil) (fun w' hS => outE (hS.pick [4, 5, 3, 0, 1, 2] [_, _, _, _, _, _] rfl (by decide)) hr hn hll hq hn16' (fun k => okq_mono (hwf.ok k) (by omega)) hgw hsm (by omega)) (fun r1 hX => ?_))
                          refine tl_step rfl (oj_val (y_move (fe_t rfl)) ?_)
                          refine tl_step rfl (oj_val (y_extract (fe_t rfl) rfl) ?_)
                          refine tl_step rfl (oj_val (y_extract (fe_t rfl) rfl) ?_)
                          refine tl_step rfl (oj_alloc Try.zeroValue102 (fun bs => ?_))
                          refine tl_step rfl (oj_storeW 0 Try.sizeOf102 (fe_t rfl) (fe_t rfl) rfl rfl rfl rfl rfl (?_))
                          refine tl_step rfl (oj_val (y_assign (fe_t rfl)) ?_)
                          refine tl_nil ?_
                          refine tx_then ?_
                          refine tr_seq ?_
                          refine tr_region ?_
                          refine tl_step rfl (oj_val (y_move (fe_t rfl)) ?_)
                          refine tl_nil ?_
                          refine tx_then ?_
                          refine tr_cond (fe_t rfl) (fun hq27 => ?_) (fun hq28 => ?_)
                          · try (exfalso; omega)
                            all_goals
                              obtain ⟨q, lb, e2, hL, hM, e3, e4, e6⟩ : ∃ (q : Nat) (lb : Int), r1.2.1 = true ∧ Least s.fs n lb ∧ May s.fs n (max s.time lb) q ∧ r1.1 = ((q : Int), hd (gq s.fs q).bs) ∧ r1.2.2.1 = max s.time lb + hd (gq s.fs q).bs * 27720 ∧ r1.2.2.2.map Fl.q = s.fs.set q (outQ (cost ws q) (gq s.fs q)) := by
                                rcases hX.2 with ⟨h, _⟩ | h
                                · rw [hq27] at h; cases h
                                · exact h
                              have hX1 := hX.1
                              clear hX
                              rw [e3, e4]
                              refine tr_region ?_
                              refine tl_step rfl (oj_val (y_move (fe_t rfl)) ?_)
                              refine tl_step rfl (oj_val (y_ldbA 0 Try.isAgg102 Try.sizeOf102 (fe_t rfl) rfl rfl rfl) ?_)
                              refine tl_step rfl (oj_slice1 Try.underlying93 Try.sizeOf102 Try.zeroValue102 (fe_t rfl) (by decide) rfl (fun b10 => ?_))
                              refine tl_step rfl (oj_append (i := 6) (s := 2) (z := (.agg #[.int .i64 0, .int .i64 0])) (bytes := 16) Try.underlying93 (by kernel_rfl) (fe_t rfl) (fe_t rfl) rfl (rdl_blk 0 rfl) rfl (by decide) (by first | exact oneI | exact oneF (fun _ => rfl) | exact fun u hu => List.all_eq_true.1 (show List.all _ (fun x => x.oneCell') = true from rfl) u hu | (intro u hu; revert u hu; simp [Value.oneCell'])) (by decide) ⟨by omega, by decide⟩ (fun Aa10 ca10 hca10 => ?_))
                              refine tl_step rfl (oj_val (y_assign (fe_t rfl)) ?_)
                              refine tl_nil ?_
                              refine tx_in ?_
                              refine tx_then ?_
                              refine tr_region ?_
                              refine tl_step rfl (oj_val (y_move (fe_t rfl)) ?_)
                              refine tl_step rfl (oj_val (y_move (fe_t rfl)) ?_)
                              refine tl_step rfl (oj_slice1 Try.underlying92 Try.sizeOf24 Try.zeroValue24 (fe_t rfl) (by decide) rfl (fun b11 => ?_))
                              refine tl_step rfl (oj_append (i := 8) (s := 1) (z := (.int .i64 0)) (bytes := 8) Try.underlying92 (by kernel_rfl) (fe_t rfl) (fe_t rfl) rfl (rdl_blk 0 rfl) rfl (by decide) (by first | exact oneI | exact oneF (fun _ => rfl) | exact fun u hu => List.all_eq_true.1 (show List.all _ (fun x => x.oneCell') = true from rfl) u hu | (intro u hu; revert u hu; simp [Value.oneCell'])) (by decide) ⟨by omega, by decide⟩ (fun Aa11 ca11 hca11 => ?_))
                              refine tl_step rfl (oj_val (y_assign (fe_t rfl)) ?_)
                              refine tl_nil ?_
                              refine tx_in ?_
                              refine tx_then ?_
                              refine tr_region ?_
                              refine tl_step rfl (oj_val (y_inc (fe_t rfl) fe_c (by omega)) ?_)
                              refine tl_step rfl (oj_val (y_move (fe_t rfl)) ?_)
                              refine tl_nil ?_
                              apply tx_back5 (i + 1) (⟨s.fs.set q (outQ (cost ws q) (gq s.fs q)), max s.time lb + hd (gq s.fs q).bs * 27720, s.errs ++ [0], s.sent ++ [((q : Int), hd (gq s.fs q).bs)]⟩) (_) ((⟨_, _, _, _⟩ : Vs)) ((⟨_, _, _, _⟩ : Vs))
                              · exact (cov_cons (by first | rfl | exact v_int (by omega) | exact v_int (by dsimp only; omega)) (cov_cons (by first | rfl | exact v_int (by omega) | exact v_int (by dsimp only; omega)) (cov_cons (by first | rfl | exact v_int (by omega) | exact v_int (by dsimp only; omega)) (cov_nil))))
                              · repeat (first | exact over_nil | refine over_put rfl ?_ | refine over_drop rfl ?_)
                              · exact fun w h => h.pick [7, 8, 5, 3, 4] _ rfl (by decide)
                              · exact ⟨⟨by omega, ⟨s, hrun, .out q lb (by show o1 os i = 2; omega) hL hM⟩, hX1, e6, ⟨by simp; omega, by dsimp only; rw [hex, cI, cI, List.map_append]; rfl⟩, by simp; omega, by dsimp only; rw [hsx, List.flatMap_append]; rfl⟩, by omega⟩
                          · try (exfalso; omega)
                            all_goals
                              obtain ⟨_, _, e3, e4, e5⟩ : r1.2.1 = false ∧ r1.1 = (0, 0) ∧ r1.2.2.1 = s.time ∧ r1.2.2.2.map Fl.q = s.fs ∧ ∀ j, j < n → (gq s.fs j).bs.length = 0 := by
                                rcases hX.2 with h | ⟨_, _, h, _⟩
                                · exact h
                                · rw [hq28] at h; cases h
                              have hX1 := hX.1
                              clear hX
                              rw [e3]
                              refine tr_region ?_
                              refine tl_step rfl (oj_val (y_assign fe_c) ?_)
                              refine tl_nil ?_
                              refine tx_in ?_
                              refine tx_then ?_
                              refine tr_region ?_
                              refine tl_step rfl (oj_val (y_move (fe_t rfl)) ?_)
                              refine tl_step rfl (oj_val (y_move (fe_t rfl)) ?_)
                              refine tl_step rfl (oj_slice1 Try.underlying92 Try.sizeOf24 Try.zeroValue24 (fe_t rfl) (by decide) rfl (fun b12 => ?_))
                              refine tl_step rfl (oj_append (i := 7) (s := 1) (z := (.int .i64 0)) (bytes := 8) Try.underlying92 (by kernel_rfl) (fe_t rfl) (fe_t rfl) rfl (rdl_blk 0 rfl) rfl (by decide) (by first | exact oneI | exact oneF (fun _ => rfl) | exact fun u hu => List.all_eq_true.1 (show List.all _ (fun x => x.oneCell') = true from rfl) u hu | (intro u hu; revert u hu; simp [Value.oneCell'])) (by decide) ⟨by omega, by decide⟩ (fun Aa12 ca12 hca12 => ?_))
                              refine tl_step rfl (oj_val (y_assign (fe_t rfl)) ?_)
                              refine tl_nil ?_
                              refine tx_in ?_
                              refine tx_then ?_
                              refine tr_region ?_
                              refine tl_step rfl (oj_val (y_inc (fe_t rfl) fe_c (by omega)) ?_)
                              refine tl_step rfl (oj_val (y_move (fe_t rfl)) ?_)
                              refine tl_nil ?_
                              apply tx_back5 (i + 1) ({ s with errs := s.errs ++ [3] }) (_) ((⟨_, _, _, _⟩ : Vs)) ((⟨_, _, _, _⟩ : Vs))
                              · exact (cov_cons (by first | rfl | exact v_int (by omega) | exact v_int (by dsimp only; omega)) (cov_cons (by first | rfl | exact v_int (by omega) | exact v_int (by dsimp only; omega)) (cov_cons (by first | rfl | exact v_int (by omega) | exact v_int (by dsimp only; omega)) (cov_nil))))
                              · repeat (first | exact over_nil | refine over_put rfl ?_ | refine over_drop rfl ?_)
                              · exact fun w h => h.pick [6, 7, 4, 2, 3] _ rfl (by decide)
                              · exact ⟨⟨by omega, ⟨s, hrun, .nought (by show o1 os i = 2; omega) e5⟩, hX1, e4, ⟨by simp; omega, by dsimp only; rw [hex, cI, cI, List.map_append]; rfl⟩, hsn, hsx⟩, by omega⟩
                      · try (exfalso; omega)
                        all_goals
                          refine tr_seq ?_
                          refine tr_region ?_
                          refine tl_step rfl (oj_val (y_fieldAddr (td := 3) Try.underlying174 rfl rfl Try.sizeOf3 (o' := 1) rfl (fe_t rfl)) ?_)
                          refine tl_step rfl (oj_val (y_ldb 0 Try.isAgg3 (fe_t rfl) rfl rfl) ?_)
                          refine tl_step rfl (oj_val (y_lss (fe_t rfl) fe_c) ?_)
                          refine tl_step rfl (oj_val (y_move (fe_t rfl)) ?_)
                          refine tl_splitp (d := 90) rfl (fun hq29 => ?_) (fun hq30 => ?_)
                          · try (exfalso; omega)
                            all_goals
                              refine tl_skip rfl rfl rfl rfl ?_
                              refine tl_skip rfl rfl rfl rfl ?_
                              refine tl_skip rfl rfl rfl rfl ?_
                              refine tl_skip rfl rfl rfl rfl ?_
                              refine tl_skip rfl rfl rfl rfl ?_
                              refine tl_step rfl (oj_val (y_pickt (fe_t rfl) fe_c) ?_)
                              refine tl_step rfl (oj_val (y_assign (fe_t rfl)) ?_)
                              refine tl_nil ?_
                              refine tx_then ?_
                              refine tr_condt (fe_t rfl) ?_
                              refine tr_region ?_
                              refine tl_step rfl (oj_val (y_assign fe_c) ?_)
                              refine tl_nil ?_
                              refine tx_in ?_
                              refine tx_then ?_
                              refine tr_region ?_
                              refine tl_step rfl (oj_val (y_move (fe_t rfl)) ?_)
                              refine tl_step rfl (oj_val (y_move (fe_t rfl)) ?_)
                              refine tl_step rfl (oj_slice1 Try.underlying92 Try.sizeOf24 Try.zeroValue24 (fe_t rfl) (by decide) rfl (fun b13 => ?_))
                              refine tl_step rfl (oj_append (i := 3) (s := 1) (z := (.int .i64 0)) (bytes := 8) Try.underlying92 (by kernel_rfl) (fe_t rfl) (fe_t rfl) rfl (rdl_blk 0 rfl) rfl (by decide) (by first | exact oneI | exact oneF (fun _ => rfl) | exact fun u hu => List.all_eq_true.1 (show List.all _ (fun x => x.oneCell') = true from rfl) u hu | (intro u hu; revert u hu; simp [Value.oneCell'])) (by decide) ⟨by omega, by decide⟩ (fun Aa13 ca13 hca13 => ?_))
                              refine tl_step rfl (oj_val (y_assign (fe_t rfl)) ?_)
                              refine tl_nil ?_
                              refine tx_in ?_
                              refine tx_then ?_
                              refine tr_region ?_
                              refine tl_step rfl (oj_val (y_inc (fe_t rfl) fe_c (by omega)) ?_)
                              refine tl_step rfl (oj_val (y_move (fe_t rfl)) ?_)
                              refine tl_nil ?_
                              apply tx_back5 (i + 1) ({ s with errs := s.errs ++ [3] }) (_) ((⟨_, _, _, _⟩ : Vs)) ((⟨_, _, _, _⟩ : Vs))
                              · exact (cov_cons (by first | rfl | exact v_int (by omega) | exact v_int (by dsimp only; omega)) (cov_cons (by first | rfl | exact v_int (by omega) | exact v_int (by dsimp only; omega)) (cov_cons (by first | rfl | exact v_int (by omega) | exact v_int (by dsimp only; omega)) (cov_nil))))
                              · repeat (first | exact over_nil | refine over_put rfl ?_ | refine over_drop rfl ?_)
                              · exact fun w h => h.pick [2, 3, 4, 5, 6] _ rfl (by decide)
                              · exact ⟨⟨by omega, ⟨s, hrun, .none (by show o1 os i = 1; omega) (by show o2 os i < 0 ∨ _ ≤ o2 os i; omega)⟩, hll, hq, ⟨by simp; omega, by dsimp only; rw [hex, cI, cI, List.map_append]; rfl⟩, hsn, hsx⟩, by omega⟩
                          · try (exfalso; omega)
                            all_goals
                              refine tl_want rfl rfl rfl (oj_val (y_fieldAddr (td := 3) Try.underlying174 rfl rfl Try.sizeOf3 (o' := 1) rfl (fe_t rfl)) ?_)
                              refine tl_want rfl rfl rfl (oj_val (y_ldb 0 Try.isAgg3 (fe_t rfl) rfl rfl) ?_)
                              refine tl_want rfl rfl rfl (oj_val (y_move (fe_t rfl)) ?_)
                              refine tl_want rfl rfl rfl (oj_val (y_len Try.underlying79 (fe_t rfl)) ?_)
                              refine tl_want rfl rfl rfl (oj_val (y_geq (fe_t rfl) (fe_t rfl)) ?_)
                              refine tl_step rfl (oj_val (y_pickf (fe_t rfl) (fe_t rfl)) ?_)
                              refine tl_step rfl (oj_val (y_assign (fe_t rfl)) ?_)
                              refine tl_nil ?_
                              refine tx_then ?_
                              refine tr_condp (fe_t rfl) (fun hq31 => ?_) (fun hq32 => ?_)
                              · try (exfalso; omega)
                                all_goals
                                  refine tr_region ?_
                                  refine tl_step rfl (oj_val (y_assign fe_c) ?_)
                                  refine tl_nil ?_
                                  refine tx_in ?_
                                  refine tx_then ?_
                                  refine tr_region ?_
                                  refine tl_step rfl (oj_val (y_move (fe_t rfl)) ?_)
                                  refine tl_step rfl (oj_val (y_move (fe_t rfl)) ?_)
                                  refine tl_step rfl (oj_slice1 Try.underlying92 Try.sizeOf24 Try.zeroValue24 (fe_t rfl) (by decide) rfl (fun b14 => ?_))
                                  refine tl_step rfl (oj_append (i := 3) (s := 1) (z := (.int .i64 0)) (bytes := 8) Try.underlying92 (by kernel_rfl) (fe_t rfl) (fe_t rfl) rfl (rdl_blk 0 rfl) rfl (by decide) (by first | exact oneI | exact oneF (fun _ => rfl) | exact fun u hu => List.all_eq_true.1 (show List.all _ (fun x => x.oneCell') = true from rfl) u hu | (intro u hu; revert u hu; simp [Value.oneCell'])) (by decide) ⟨by omega, by decide⟩ (fun Aa14 ca14 hca14 => ?_))
                                  refine tl_step rfl (oj_val (y_assign (fe_t rfl)) ?_)
                                  refine tl_nil ?_
                                  refine tx_in ?_
                                  refine tx_then ?_
                                  refine tr_region ?_
                                  refine tl_step rfl (oj_val (y_inc (fe_t rfl) fe_c (by omega)) ?_)
                                  refine tl_step rfl (oj_val (y_move (fe_t rfl)) ?_)
                                  refine tl_nil ?_
                                  apply tx_back5 (i + 1) ({ s with errs := s.errs ++ [3] }) (_) ((⟨_, _, _, _⟩ : Vs)) ((⟨_, _, _, _⟩ : Vs))
                                  · exact (cov_cons (by first | rfl | exact v_int (by omega) | exact v_int (by dsimp only; omega)) (cov_cons (by first | rfl | exact v_int (by omega) | exact v_int (by dsimp only; omega)) (cov_cons (by first | rfl | exact v_int (by omega) | exact v_int (by dsimp only; omega)) (cov_nil))))
                                  · repeat (first | exact over_nil | refine over_put rfl ?_ | refine over_drop rfl ?_)
                                  · exact fun w h => h.pick [2, 3, 4, 5, 6] _ rfl (by decide)
                                  · exact ⟨⟨by omega, ⟨s, hrun, .none (by show o1 os i = 1; omega) (by show o2 os i < 0 ∨ _ ≤ o2 os i; omega)⟩, hll, hq, ⟨by simp; omega, by dsimp only; rw [hex, cI, cI, List.map_append]; rfl⟩, hsn, hsx⟩, by omega⟩
                              · try (exfalso; omega)
                                all_goals
                                  refine tr_seq ?_
                                  refine tr_region ?_
                                  refine tl_step rfl (oj_val (y_fieldAddr (td := 3) Try.underlying174 rfl rfl Try.sizeOf3 (o' := 2) rfl (fe_t rfl)) ?_)
                                  refine tl_step rfl (oj_val (y_ldb 0 Try.isAgg3 (fe_t rfl) rfl rfl) ?_)
                                  refine tl_step rfl (oj_val (y_lss (fe_t rfl) fe_c) ?_)
                                  refine tl_step rfl (oj_val (y_move (fe_t rfl)) ?_)
                                  refine tl_splitp (d := 101) rfl (fun hq33 => ?_) (fun hq34 => ?_)
                                  · try (exfalso; omega)
                                    all_goals
                                      refine tl_skip rfl rfl rfl rfl ?_
                                      refine tl_skip rfl rfl rfl rfl ?_
                                      refine tl_skip rfl rfl rfl rfl ?_
                                      refine tl_step rfl (oj_val (y_pickt (fe_t rfl) fe_c) ?_)
                                      refine tl_step rfl (oj_val (y_assign (fe_t rfl)) ?_)
                                      refine tl_nil ?_
                                      refine tx_then ?_
                                      refine tr_condt (fe_t rfl) ?_
                                      refine tr_region ?_
                                      refine tl_step rfl (oj_val (y_assign fe_c) ?_)
                                      refine tl_nil ?_
                                      refine tx_in ?_
                                      refine tx_then ?_
                                      refine tr_region ?_
                                      refine tl_step rfl (oj_val (y_move (fe_t rfl)) ?_)
                                      refine tl_step rfl (oj_val (y_move (fe_t rfl)) ?_)
                                      refine tl_step rfl (oj_slice1 Try.underlying92 Try.sizeOf24 Try.zeroValue24 (fe_t rfl) (by decide) rfl (fun b15 => ?_))
                                      refine tl_step rfl (oj_append (i := 3) (s := 1) (z := (.int .i64 0)) (bytes := 8) Try.underlying92 (by kernel_rfl) (fe_t rfl) (fe_t rfl) rfl (rdl_blk 0 rfl) rfl (by decide) (by first | exact oneI | exact oneF (fun _ => rfl) | exact fun u hu => List.all_eq_true.1 (show List.all _ (fun x => x.oneCell') = true from rfl) u hu | (intro u hu; revert u hu; simp [Value.oneCell'])) (by decide) ⟨by omega, by decide⟩ (fun Aa15 ca15 hca15 => ?_))
                                      refine tl_step rfl (oj_val (y_assign (fe_t rfl)) ?_)
                                      refine tl_nil ?_
                                      refine tx_in ?_
                                      refine tx_then ?_
                                      refine tr_region ?_
                                      refine tl_step rfl (oj_val (y_inc (fe_t rfl) fe_c (by omega)) ?_)
                                      refine tl_step rfl (oj_val (y_move (fe_t rfl)) ?_)
                                      refine tl_nil ?_
                                      apply tx_back5 (i + 1) ({ s with errs := s.errs ++ [2] }) (_) ((⟨_, _, _, _⟩ : Vs)) ((⟨_, _, _, _⟩ : Vs))
                                      · exact (cov_cons (by first | rfl | exact v_int (by omega) | exact v_int (by dsimp only; omega)) (cov_cons (by first | rfl | exact v_int (by omega) | exact v_int (by dsimp only; omega)) (cov_cons (by first | rfl | exact v_int (by omega) | exact v_int (by dsimp only; omega)) (cov_nil))))
                                      · repeat (first | exact over_nil | refine over_put rfl ?_ | refine over_drop rfl ?_)
                                      · exact fun w h => h.pick [2, 3, 4, 5, 6] _ rfl (by decide)
                                      · exact ⟨⟨by omega, ⟨s, hrun, .range (by show o1 os i = 1; omega) (by show 0 ≤ o2 os i ∧ o2 os i < _; omega) (by show o3 os i < 1 ∨ 1500 < o3 os i; omega)⟩, hll, hq, ⟨by simp; omega, by dsimp only; rw [hex, cI, cI, List.map_append]; rfl⟩, hsn, hsx⟩, by omega⟩
                                  · try (exfalso; omega)
                                    all_goals
                                      refine tl_want rfl rfl rfl (oj_val (y_fieldAddr (td := 3) Try.underlying174 rfl rfl Try.sizeOf3 (o' := 2) rfl (fe_t rfl)) ?_)
                                      refine tl_want rfl rfl rfl (oj_val (y_ldb 0 Try.isAgg3 (fe_t rfl) rfl rfl) ?_)
                                      refine tl_want rfl rfl rfl (oj_val (y_gtr (fe_t rfl) fe_c) ?_)
                                      refine tl_step rfl (oj_val (y_pickf (fe_t rfl) (fe_t rfl)) ?_)
                                      refine tl_step rfl (oj_val (y_assign (fe_t rfl)) ?_)
                                      refine tl_nil ?_
                                      refine tx_then ?_
                                      refine tr_condp (fe_t rfl) (fun hq35 => ?_) (fun hq36 => ?_)
                                      · try (exfalso; omega)
                                        all_goals
                                          refine tr_region ?_
                                          refine tl_step rfl (oj_val (y_assign fe_c) ?_)
                                          refine tl_nil ?_
                                          refine tx_in ?_
                                          refine tx_then ?_
                                          refine tr_region ?_
                                          refine tl_step rfl (oj_val (y_move (fe_t rfl)) ?_)
                                          refine tl_step rfl (oj_val (y_move (fe_t rfl)) ?_)
                                          refine tl_step rfl (oj_slice1 Try.underlying92 Try.sizeOf24 Try.zeroValue24 (fe_t rfl) (by decide) rfl (fun b16 => ?_))
                                          refine tl_step rfl (oj_append (i := 3) (s := 1) (z := (.int .i64 0)) (bytes := 8) Try.underlying92 (by kernel_rfl) (fe_t rfl) (fe_t rfl) rfl (rdl_blk 0 rfl) rfl (by decide) (by first | exact oneI | exact oneF (fun _ => rfl) | exact fun u hu => List.all_eq_true.1 (show List.all _ (fun x => x.oneCell') = true from rfl) u hu | (intro u hu; revert u hu; simp [Value.oneCell'])) (by decide) ⟨by omega, by decide⟩ (fun Aa16 ca16 hca16 => ?_))
                                          refine tl_step rfl (oj_val (y_assign (fe_t rfl)) ?_)
                                          refine tl_nil ?_
                                          refine tx_in ?_
                                          refine tx_then ?_
                                          refine tr_region ?_
                                          refine tl_step rfl (oj_val (y_inc (fe_t rfl) fe_c (by omega)) ?_)
                                          refine tl_step rfl (oj_val (y_move (fe_t rfl)) ?_)
                                          refine tl_nil ?_
                                          apply tx_back5 (i + 1) ({ s with errs := s.errs ++ [2] }) (_) ((⟨_, _, _, _⟩ : Vs)) ((⟨_, _, _, _⟩ : Vs))
                                          · exact (cov_cons (by first | rfl | exact v_int (by omega) | exact v_int (by dsimp only; omega)) (cov_cons (by first | rfl | exact v_int (by omega) | exact v_int (by dsimp only; omega)) (cov_cons (by first | rfl | exact v_int (by omega) | exact v_int (by dsimp only; omega)) (cov_nil))))
                                          · repeat (first | exact over_nil | refine over_put rfl ?_ | refine over_drop rfl ?_)
                                          · exact fun w h => h.pick [2, 3, 4, 5, 6] _ rfl (by decide)
                                          · exact ⟨⟨by omega, ⟨s, hrun, .range (by show o1 os i = 1; omega) (by show 0 ≤ o2 os i ∧ o2 os i < _; omega) (by show o3 os i < 1 ∨ 1500 < o3 os i; omega)⟩, hll, hq, ⟨by simp; omega, by dsimp only; rw [hex, cI, cI, List.map_append]; rfl⟩, hsn, hsx⟩, by omega⟩
                                      · try (exfalso; omega)
                                        all_goals
                                          obtain ⟨k, hk⟩ : ∃ k : Nat, o2 os i = k := ⟨(o2 os i).toNat, by omega⟩
                                          have hkn : k < n := by omega
                                          have hkc := hwf.cnt k
                                          have hke := (hwf.ok k).2.1
                                          refine tr_region ?_
                                          refine tl_step rfl (oj_val (y_move (fe_t rfl)) ?_)
                                          refine tl_step rfl (oj_val (y_fieldAddr (td := 3) Try.underlying174 rfl rfl Try.sizeOf3 (o' := 1) rfl (fe_t rfl)) ?_)
                                          refine tl_step rfl (oj_val (y_ldb 0 Try.isAgg3 (fe_t rfl) rfl rfl) ?_)
                                          refine tl_step rfl (oj_val (y_fieldAddr (td := 3) Try.underlying174 rfl rfl Try.sizeOf3 (o' := 2) rfl (fe_t rfl)) ?_)
                                          refine tl_step rfl (oj_val (y_ldb 0 Try.isAgg3 (fe_t rfl) rfl rfl) ?_)
                                          refine tl_step rfl (oj_call2 Try.call140 fe_f (fel_cons (fe_t rfl) (fel_cons (fe_i hk rfl) (fel_cons (fe_t rfl) fel_nil))) (fun w' hS => inE (hS.pick [4, 5, 3, 0, 1, 2] [_, _, _, _, _, _] rfl (by decide)) hr hn hll hq (k := k) hkn (by omega) (by omega) (hgw k hkn) hsm (by omega) (by omega)) (fun l2 hI => ?_))
                                          refine tl_nil ?_
                                          refine tx_in ?_
                                          refine tx_then ?_
                                          refine tr_region ?_
                                          refine tl_step rfl (oj_val (y_move (fe_t rfl)) ?_)
                                          refine tl_step rfl (oj_val (y_move (fe_t rfl)) ?_)
                                          refine tl_step rfl (oj_slice1 Try.underlying92 Try.sizeOf24 Try.zeroValue24 (fe_t rfl) (by decide) rfl (fun b17 => ?_))
                                          refine tl_step rfl (oj_append (i := 6) (s := 1) (z := (.int .i64 0)) (bytes := 8) Try.underlying92 (by kernel_rfl) (fe_t rfl) (fe_t rfl) rfl (rdl_blk 0 rfl) rfl (by decide) (by first | exact oneI | exact oneF (fun _ => rfl) | exact fun u hu => List.all_eq_true.1 (show List.all _ (fun x => x.oneCell') = true from rfl) u hu | (intro u hu; revert u hu; simp [Value.oneCell'])) (by decide) ⟨by omega, by decide⟩ (fun Aa17 ca17 hca17 => ?_))
                                          refine tl_step rfl (oj_val (y_assign (fe_t rfl)) ?_)
                                          refine tl_nil ?_
                                          refine tx_in ?_
                                          refine tx_then ?_
                                          refine tr_region ?_
                                          refine tl_step rfl (oj_val (y_inc (fe_t rfl) fe_c (by omega)) ?_)
                                          refine tl_step rfl (oj_val (y_move (fe_t rfl)) ?_)
                                          refine tl_nil ?_
                                          apply tx_back5 (i + 1) ({ s with errs := s.errs ++ [0], fs := s.fs.set k (inQ (cost ws k) (gq s.fs k) (o3 os i) s.time) }) (_) ((⟨_, _, _, _⟩ : Vs)) ((⟨_, _, _, _⟩ : Vs))
                                          · exact (cov_cons (by first | rfl | exact v_int (by omega) | exact v_int (by dsimp only; omega)) (cov_cons (by first | rfl | exact v_int (by omega) | exact v_int (by dsimp only; omega)) (cov_cons (by first | rfl | exact v_int (by omega) | exact v_int (by dsimp only; omega)) (cov_nil))))
                                          · repeat (first | exact over_nil | refine over_put rfl ?_ | refine over_drop rfl ?_)
                                          · exact fun w h => h.pick [5, 6, 3, 1, 2] _ rfl (by decide)
                                          · exact ⟨⟨by omega, ⟨s, hrun, .inn k (by show o1 os i = 1; omega) (by show o2 os i = k; omega) hkn (by show 1 ≤ o3 os i ∧ o3 os i ≤ 1500; omega)⟩, hI.1, hI.2, ⟨by simp; omega, by dsimp only; rw [hex, cI, cI, List.map_append]; rfl⟩, hsn, hsx⟩, by omega⟩
              · try (exfalso; omega)
                all_goals
                  refine tr_exit ?_
                  refine tx_then_exit ?_
                  refine tx_then_exit ?_
                  refine tx_in_exit ?_
                  refine tx_then ?_
                  refine tr_seq ?_
                  refine tr_region ?_
                  refine tl_step rfl (oj_val (y_assign fe_c) ?_)
                  refine tl_nil ?_
                  refine tx_then ?_
                  refine tr_seq ?_
                  refine tr_seq ?_
                  refine tr_region ?_
                  refine tl_step rfl (oj_val (y_move (fe_t rfl)) ?_)
                  refine tl_step rfl (oj_val (y_nilCheck (fe_t rfl)) ?_)
                  refine tl_step rfl (oj_val (y_fieldAddr (td := 170) Try.underlying172 rfl rfl Try.sizeOf170 (o' := 1) rfl (fe_t rfl)) ?_)
                  refine tl_step rfl (oj_val (y_ldb 3 Try.isAgg170 (fe_t rfl) rfl rfl) ?_)
                  refine tl_step rfl (oj_val (y_len Try.underlying170 (fe_t rfl)) ?_)
                  refine tl_step rfl (oj_val (y_move fe_c) ?_)
                  refine tl_nil ?_
                  refine tx_then ?_
                  refine tr_block ?_
                  refine tr_add (r := vec 3 1 (.slice none 0 0) 0 []) vec_nil rfl ?_
                  refine tr_loop2 [19, 21, 116, 117, 118, 119, 120, 121, 122, 123, 124, 125, 126] (fun (k : Nat) (z1 : Vs) => [(116, .int .i64 (k : Int)), (19, .slice z1.A z1.n z1.c)]) 0 (fun (k : Nat) (z1 : Vs) => [(0, vec 3 1 (.slice z1.A z1.n z1.c) z1.n z1.xs)]) (fun (k : Nat) (z1 : Vs) => k ≤ n ∧ z1.n = k ∧ z1.xs = cI ((left s).take k)) (fun (k : Nat) (z1 : Vs) => n - k) (0) (⟨none, 0, 0, []⟩ : Vs) (cov_cons (by first | rfl | exact v_int (by omega) | exact v_int (by dsimp only; omega)) (cov_cons (by first | rfl | exact v_int (by omega) | exact v_int (by dsimp only; omega)) (cov_nil))) (fun w h => h) ?_ ?_
                  · try dsimp only
                    exact ⟨by omega, rfl, rfl⟩
                  intro k z1 hp
                  obtain ⟨hk, hzn, hzx⟩ := hp
                  refine tr_seq ?_
                  refine tr_region ?_
                  refine tl_step rfl (oj_val (y_lss (fe_t rfl) (fe_t rfl)) ?_)
                  refine tl_nil ?_
                  refine tx_then ?_
                  refine tr_seq ?_
                  refine tr_condp (fe_t rfl) (fun hq37 => ?_) (fun hq38 => ?_)
                  · try (exfalso; omega)
                    all_goals
                      refine tr_skip ?_
                      refine tx_then ?_
                      refine tr_seq ?_
                      refine tr_block ?_
                      refine tr_seq ?_
                      refine tr_region ?_
                      refine tl_step rfl (oj_val (y_index Try.underlying170 Try.sizeOf179 (fe_t rfl) (fe_t rfl) (rdl_vec 5 rfl) (by rw [flat_len hcF]; omega) (by decide) (by omega) rfl) ?_)
                      refine tl_step rfl (oj_val (y_ldA (cs := cF (l.getD k Fl.nil)) Try.isAgg179 Try.sizeOf179 (fe_t rfl) (rdl_vec 5 rfl) rfl (by decide) (flatGA (d := Fl.nil) hcF (by omega))) ?_)
                      refine tl_step rfl (oj_alloc Try.zeroValue179 (fun bg => ?_))
                      refine tl_step rfl (oj_storeW 0 Try.sizeOf179 (fe_t rfl) (fe_t rfl) rfl rfl rfl rfl rfl (?_))
                      refine tl_nil ?_
                      refine tx_then ?_
                      refine tr_region ?_
                      refine tl_step rfl (oj_val (y_move (fe_t rfl)) ?_)
                      refine tl_step rfl (oj_val (y_fieldAddr (td := 79) Try.underlying179 rfl rfl Try.sizeOf79 (o' := 0) rfl (fe_t rfl)) ?_)
                      refine tl_step rfl (oj_val (y_ldb 0 Try.isAgg79 (fe_t rfl) rfl rfl) ?_)
                      refine tl_step rfl (oj_val (y_len Try.underlying79 (fe_t rfl)) ?_)
                      refine tl_step rfl (oj_slice1 Try.underlying79 Try.sizeOf3 Try.zeroValue3 (fe_t rfl) (by decide) rfl (fun b18 => ?_))
                      refine tl_step rfl (oj_append (i := 2) (s := 1) (z := (.int .i64 0)) (bytes := 8) Try.underlying79 (by kernel_rfl) (fe_t rfl) (fe_t rfl) rfl (rdl_blk 0 rfl) rfl (by decide) (by first | exact oneI | exact oneF (fun _ => rfl) | exact fun u hu => List.all_eq_true.1 (show List.all _ (fun x => x.oneCell') = true from rfl) u hu | (intro u hu; revert u hu; simp [Value.oneCell'])) (by decide) ⟨by omega, by decide⟩ (fun Aa18 ca18 hca18 => ?_))
                      refine tl_step rfl (oj_val (y_assign (fe_t rfl)) ?_)
                      refine tl_nil ?_
                      refine tx_in ?_
                      refine tx_then ?_
                      refine tr_region ?_
                      refine tl_step rfl (oj_val (y_inc (fe_t rfl) fe_c (by omega)) ?_)
                      refine tl_step rfl (oj_val (y_move (fe_t rfl)) ?_)
                      refine tl_nil ?_
                      apply tx_back2 (k + 1) ((⟨_, _, _, _⟩ : Vs))
                      · exact (cov_cons (by first | rfl | exact v_int (by omega) | exact v_int (by dsimp only; omega)) (cov_cons (by first | rfl | exact v_int (by omega) | exact v_int (by dsimp only; omega)) (cov_nil)))
                      · repeat (first | exact over_nil | refine over_put rfl ?_ | refine over_drop rfl ?_)
                      · exact fun w h => h.pick [2, 3, 4, 5, 6, 7] _ rfl (by decide)
                      · refine ⟨⟨by omega, by dsimp only; omega, ?_⟩, by omega⟩
                        dsimp only
                        rw [hzx, left_take (by rw [hwf.len]; omega), cI, cI, List.map_append, flq hq k]
                        rfl
                  · try (exfalso; omega)
                    all_goals
                      refine tr_exit ?_
                      refine tx_then_exit ?_
                      refine tx_then_exit ?_
                      refine tx_in_exit ?_
                      refine tx_then ?_
                      refine tr_seq ?_
                      refine tr_region ?_
                      refine tl_step rfl (oj_val (y_move (fe_t rfl)) ?_)
                      refine tl_step rfl (oj_val (y_move (fe_t rfl)) ?_)
                      refine tl_step rfl (oj_val (y_move (fe_t rfl)) ?_)
                      refine tl_step rfl (oj_val (y_assign (fe_t rfl)) ?_)
                      refine tl_step rfl (oj_val (y_assign (fe_t rfl)) ?_)
                      refine tl_step rfl (oj_val (y_assign (fe_t rfl)) ?_)
                      refine tl_step rfl (oj_val (y_assign fe_c) ?_)
                      refine tl_nil ?_
                      refine tx_then ?_
                      refine tr_ret ?_
                      refine tx_ret (res4 Try.results67 (rok_t rfl) (rok_t rfl) (rok_t rfl) (rok_t rfl)) (fun w' hS => ?_)
                      obtain rfl : k = n := by omega
                      obtain rfl : i = m := by omega
                      exact ⟨(s, e1, s1, z1), ⟨hrun, ⟨hen, hex⟩, ⟨hsn, hsx⟩, hzn, by rw [hzx, List.take_of_length_le (by simp [left, hwf.len])]⟩, rfl, hS.pick [2, 1, 0] _ rfl (by decide)⟩

end Go.Proofs.Ytcpdelkamckmfaa.Wfq
