/- the method pick. -/
import Derived.Test.YtcpdelkamckmfaaWqA
namespace Go.Proofs.Ytcpdelkamckmfaa.Wfq
open Go.RowKit Go.Proofs.Ytcpdelkamckmfaa.E Go.Proofs.Ytcpdelkamckmfaa.Scfq

theorem lb_none {fs : List Q} {n k : Nat} {b : Int} (hk : k = n) (h : Lb fs k b) (hb : b < 0) : ∀ j, j < n → (gq fs j).bs.length = 0 := by
  subst hk
  rcases h with ⟨_, h⟩ | ⟨h, _⟩
  · exact h
  · omega
theorem lb_at {fs : List Q} {k k0 : Nat} {b : Int} (h : Lb fs k b) (e : k = k0) : Lb fs k0 b := e ▸ h
theorem lb_some {fs : List Q} {n k : Nat} {b : Int} (hk : k = n) (h : Lb fs k b) (hb : ¬ b < 0) : 0 ≤ b ∧ Least fs n b := by
  subst hk
  rcases h with ⟨h, _⟩ | ⟨h, h1, h2⟩
  · omega
  · exact ⟨h, h1, h2⟩
theorem mb_some {fs : List Q} {n k : Nat} {t b m : Int} (hk : k = n) (h : Mb fs (max t b) k m) (hl : Least fs n b) : ∃ q : Nat, m = q ∧ May fs n (max t b) q := by
  subst hk
  have h0 : m ≠ -1 := fun e => by subst e; exact mb_may h hl
  rcases h with ⟨h, _⟩ | ⟨h1, h2, h3, h4, h5⟩
  · exact absurd h h0
  · exact ⟨m.toNat, by omega, h2, h3, h4, h5⟩
set_option maxRecDepth 100000 in
set_option maxHeartbeats 4000000 in
theorem pickE {w0 w : World} {T : List Res} {b g : Nat} {A : Option Addr} {n c : Nat} {ws : List Int} {sm tm : Int} {l : List Fl} {fs : List Q} (hS : St w0 w (blk b [.slice A n c, .slice (some ⟨g, 0, none⟩) n n, (.int .i64 sm), (.int .i64 tm)] :: vec 179 3 (.slice (some ⟨g, 0, none⟩) n n) n (l.flatMap cF) :: subs 3 1 (l.map Fl.bV) :: T)) (hr : Rd w0 A (ws.map (.int .i64))) (hn : ws.length = n) (hll : l.length = n) (hq : l.map Fl.q = fs) (h16 : n ≤ 16) (hok : ∀ k, 0 ≤ (gq fs k).bg) :
    Calls Try.prog 174 #[.pointer (some ⟨b, 0, none⟩)] w fun e w' => ∃ r : Int × Int, ((r.1 = -1 ∧ r.2 = tm ∧ ∀ j, j < n → (gq fs j).bs.length = 0) ∨ ∃ (q : Nat) (lb : Int), r.1 = q ∧ Least fs n lb ∧ r.2 = max tm lb ∧ May fs n (max tm lb) q) ∧ e = .returned (.int .i64 r.1) ∧ St w0 w' (blk b [.slice A n c, .slice (some ⟨g, 0, none⟩) n n, (.int .i64 sm), (.int .i64 r.2)] :: vec 179 3 (.slice (some ⟨g, 0, none⟩) n n) n (l.flatMap cF) :: subs 3 1 (l.map Fl.bV) :: T) := by
  refine calls_tr Try.func174 Try.ntmps174 rfl rfl hS ?_
  refine tr_seq ?_
  refine tr_region ?_
  refine tl_step rfl (oj_val (y_assign fe_c) ?_)
  refine tl_nil ?_
  refine tx_then ?_
  refine tr_seq ?_
  refine tr_region ?_
  refine tl_step rfl (oj_val (y_assign fe_c) ?_)
  refine tl_nil ?_
  refine tx_then ?_
  refine tr_seq ?_
  refine tr_seq ?_
  refine tr_region ?_
  refine tl_step rfl (oj_val (y_move (fe_t rfl)) ?_)
  refine tl_step rfl (oj_val (y_nilCheck (fe_t rfl)) ?_)
  refine tl_step rfl (oj_val (y_fieldAddr (td := 170) Try.underlying172 rfl rfl Try.sizeOf170 (o' := 1) rfl (fe_t rfl)) ?_)
  refine tl_step rfl (oj_val (y_ldb 0 Try.isAgg170 (fe_t rfl) rfl rfl) ?_)
  refine tl_step rfl (oj_val (y_len Try.underlying170 (fe_t rfl)) ?_)
  refine tl_step rfl (oj_val (y_move fe_c) ?_)
  refine tl_nil ?_
  refine tx_then ?_
  refine tr_block ?_
  refine tr_loop2 [3, 5, 14, 15, 16, 17, 18, 19, 20, 21, 22, 23, 24, 25, 26, 27, 28, 29, 30, 31, 32, 33, 34] (fun (k : Nat) (bl : Int) => [(14, .int .i64 (k : Int)), (3, .int .i64 bl)]) 0 (fun (k : Nat) (bl : Int) => []) (fun (k : Nat) (bl : Int) => k ≤ n ∧ Lb fs k bl) (fun (k : Nat) (bl : Int) => n - k) (0) (-1) (cov_cons (by first | rfl | exact v_int (by omega) | exact v_bool (by simp [*])) (cov_cons (by first | rfl | exact v_int (by omega) | exact v_bool (by simp [*])) (cov_nil))) (fun w h => h) ?_ ?_
  · try dsimp only
    exact ⟨by omega, lb_zero fs⟩
  intro k bl hp
  obtain ⟨hk, hb⟩ := hp
  have hbc := hb.cases
  refine tr_seq ?_
  refine tr_region ?_
  refine tl_step rfl (oj_val (y_lss (fe_t rfl) (fe_t rfl)) ?_)
  refine tl_nil ?_
  refine tx_then ?_
  refine tr_seq ?_
  refine tr_condp (fe_t rfl) (fun hq1 => ?_) (fun hq2 => ?_)
  · try (exfalso; omega)
    all_goals
      refine tr_skip ?_
      refine tx_then ?_
      refine tr_seq ?_
      refine tr_block ?_
      refine tr_seq ?_
      refine tr_region ?_
      refine tl_step rfl (oj_val (y_index Try.underlying170 Try.sizeOf179 (fe_t rfl) (fe_t rfl) (rdl_vec 1 rfl) (by rw [flat_len hcF]; omega) (by decide) (by omega) rfl) ?_)
      refine tl_step rfl (oj_val (y_ldA (cs := cF (l.getD k Fl.nil)) Try.isAgg179 Try.sizeOf179 (fe_t rfl) (rdl_vec 1 rfl) rfl (by decide) (flatGA (d := Fl.nil) hcF (by omega))) ?_)
      refine tl_step rfl (oj_alloc Try.zeroValue179 (fun bf => ?_))
      refine tl_step rfl (oj_storeW 0 Try.sizeOf179 (fe_t rfl) (fe_t rfl) rfl rfl rfl rfl rfl (?_))
      refine tl_nil ?_
      refine tx_then ?_
      refine tr_seq ?_
      have hgk : (gq fs k).bs = (l.getD k Fl.nil).bs ∧ (gq fs k).bg = (l.getD k Fl.nil).bg ∧ (gq fs k).en = (l.getD k Fl.nil).en := by rw [flq hq k]; exact ⟨rfl, rfl, rfl⟩
      obtain ⟨hk1, hk2, hk3⟩ := hgk
      have hok := hok k
      refine tr_region ?_
      refine tl_step rfl (oj_val (y_fieldAddr (td := 79) Try.underlying179 rfl rfl Try.sizeOf79 (o' := 0) rfl (fe_t rfl)) ?_)
      refine tl_step rfl (oj_val (y_ldb 0 Try.isAgg79 (fe_t rfl) rfl rfl) ?_)
      refine tl_step rfl (oj_val (y_len Try.underlying79 (fe_t rfl)) ?_)
      refine tl_step rfl (oj_val (y_gtr (fe_t rfl) fe_c) ?_)
      refine tl_step rfl (oj_val (y_move (fe_t rfl)) ?_)
      refine tl_splitp (d := 22) rfl (fun hq3 => ?_) (fun hq4 => ?_)
      · try (exfalso; omega)
        all_goals
          refine tl_want rfl rfl rfl (oj_val (y_move (fe_t rfl)) ?_)
          refine tl_want rfl rfl rfl (oj_val (y_lss (fe_t rfl) fe_c) ?_)
          refine tl_want rfl rfl rfl (oj_val (y_move (fe_t rfl)) ?_)
          refine tl_splitp (d := 25) rfl (fun hq5 => ?_) (fun hq6 => ?_)
          · try (exfalso; omega)
            all_goals
              refine tl_skip rfl rfl rfl rfl ?_
              refine tl_skip rfl rfl rfl rfl ?_
              refine tl_skip rfl rfl rfl rfl ?_
              refine tl_skip rfl rfl rfl rfl ?_
              refine tl_want rfl rfl rfl (oj_val (y_pickt (fe_t rfl) fe_c) ?_)
              refine tl_step rfl (oj_val (y_pickt (fe_t rfl) (fe_t rfl)) ?_)
              refine tl_nil ?_
              refine tx_then ?_
              refine tr_condt (fe_t rfl) ?_
              refine tr_region ?_
              refine tl_step rfl (oj_val (y_fieldAddr (td := 3) Try.underlying179 rfl rfl Try.sizeOf3 (o' := 1) rfl (fe_t rfl)) ?_)
              refine tl_step rfl (oj_val (y_ldb 0 Try.isAgg3 (fe_t rfl) rfl rfl) ?_)
              refine tl_step rfl (oj_val (y_assign (fe_t rfl)) ?_)
              refine tl_nil ?_
              refine tx_in ?_
              refine tx_then ?_
              refine tr_region ?_
              refine tl_step rfl (oj_val (y_inc (fe_t rfl) fe_c (by omega)) ?_)
              refine tl_step rfl (oj_val (y_move (fe_t rfl)) ?_)
              refine tl_nil ?_
              apply tx_back2 (k + 1) ((l.getD k Fl.nil).bg)
              · exact (cov_cons (by first | rfl | exact v_int (by omega) | exact v_bool (by simp [*])) (cov_cons (by first | rfl | exact v_int (by omega) | exact v_bool (by simp [*])) (cov_nil)))
              · repeat (first | exact over_nil | refine over_put rfl ?_ | refine over_drop rfl ?_)
              · exact fun w h => h.tail
              · first
                  | exact ⟨⟨by omega, hk2 ▸ hb.take (by rw [hk1]; omega) (by omega) (by omega)⟩, by omega⟩
                  | exact ⟨⟨by omega, hb.skip (by rw [hk1]; omega)⟩, by omega⟩
                  | exact ⟨⟨by omega, hb.keep (by omega) (by omega)⟩, by omega⟩
          · try (exfalso; omega)
            all_goals
              refine tl_want rfl rfl rfl (oj_val (y_fieldAddr (td := 3) Try.underlying179 rfl rfl Try.sizeOf3 (o' := 1) rfl (fe_t rfl)) ?_)
              refine tl_want rfl rfl rfl (oj_val (y_ldb 0 Try.isAgg3 (fe_t rfl) rfl rfl) ?_)
              refine tl_want rfl rfl rfl (oj_val (y_move (fe_t rfl)) ?_)
              refine tl_want rfl rfl rfl (oj_val (y_lss (fe_t rfl) (fe_t rfl)) ?_)
              refine tl_want rfl rfl rfl (oj_val (y_pickf (fe_t rfl) (fe_t rfl)) ?_)
              refine tl_step rfl (oj_val (y_pickt (fe_t rfl) (fe_t rfl)) ?_)
              refine tl_nil ?_
              refine tx_then ?_
              refine tr_condp (fe_t rfl) (fun hq7 => ?_) (fun hq8 => ?_)
              · try (exfalso; omega)
                all_goals
                  refine tr_region ?_
                  refine tl_step rfl (oj_val (y_fieldAddr (td := 3) Try.underlying179 rfl rfl Try.sizeOf3 (o' := 1) rfl (fe_t rfl)) ?_)
                  refine tl_step rfl (oj_val (y_ldb 0 Try.isAgg3 (fe_t rfl) rfl rfl) ?_)
                  refine tl_step rfl (oj_val (y_assign (fe_t rfl)) ?_)
                  refine tl_nil ?_
                  refine tx_in ?_
                  refine tx_then ?_
                  refine tr_region ?_
                  refine tl_step rfl (oj_val (y_inc (fe_t rfl) fe_c (by omega)) ?_)
                  refine tl_step rfl (oj_val (y_move (fe_t rfl)) ?_)
                  refine tl_nil ?_
                  apply tx_back2 (k + 1) ((l.getD k Fl.nil).bg)
                  · exact (cov_cons (by first | rfl | exact v_int (by omega) | exact v_bool (by simp [*])) (cov_cons (by first | rfl | exact v_int (by omega) | exact v_bool (by simp [*])) (cov_nil)))
                  · repeat (first | exact over_nil | refine over_put rfl ?_ | refine over_drop rfl ?_)
                  · exact fun w h => h.tail
                  · first
                      | exact ⟨⟨by omega, hk2 ▸ hb.take (by rw [hk1]; omega) (by omega) (by omega)⟩, by omega⟩
                      | exact ⟨⟨by omega, hb.skip (by rw [hk1]; omega)⟩, by omega⟩
                      | exact ⟨⟨by omega, hb.keep (by omega) (by omega)⟩, by omega⟩
              · try (exfalso; omega)
                all_goals
                  refine tr_skip ?_
                  refine tx_in ?_
                  refine tx_then ?_
                  refine tr_region ?_
                  refine tl_step rfl (oj_val (y_inc (fe_t rfl) fe_c (by omega)) ?_)
                  refine tl_step rfl (oj_val (y_move (fe_t rfl)) ?_)
                  refine tl_nil ?_
                  apply tx_back2 (k + 1) (bl)
                  · exact (cov_cons (by first | rfl | exact v_int (by omega) | exact v_bool (by simp [*])) (cov_cons (by first | rfl | exact v_int (by omega) | exact v_bool (by simp [*])) (cov_nil)))
                  · repeat (first | exact over_nil | refine over_put rfl ?_ | refine over_drop rfl ?_)
                  · exact fun w h => h.tail
                  · first
                      | exact ⟨⟨by omega, hk2 ▸ hb.take (by rw [hk1]; omega) (by omega) (by omega)⟩, by omega⟩
                      | exact ⟨⟨by omega, hb.skip (by rw [hk1]; omega)⟩, by omega⟩
                      | exact ⟨⟨by omega, hb.keep (by omega) (by omega)⟩, by omega⟩
      · try (exfalso; omega)
        all_goals
          refine tl_skip rfl rfl rfl rfl ?_
          refine tl_skip rfl rfl rfl rfl ?_
          refine tl_skip rfl rfl rfl rfl ?_
          refine tl_skip rfl rfl rfl rfl ?_
          refine tl_skip rfl rfl rfl rfl ?_
          refine tl_skip rfl rfl rfl rfl ?_
          refine tl_skip rfl rfl rfl rfl ?_
          refine tl_skip rfl rfl rfl rfl ?_
          refine tl_step rfl (oj_val (y_pickf (fe_t rfl) fe_c) ?_)
          refine tl_nil ?_
          refine tx_then ?_
          refine tr_condf (fe_t rfl) ?_
          refine tr_skip ?_
          refine tx_in ?_
          refine tx_then ?_
          refine tr_region ?_
          refine tl_step rfl (oj_val (y_inc (fe_t rfl) fe_c (by omega)) ?_)
          refine tl_step rfl (oj_val (y_move (fe_t rfl)) ?_)
          refine tl_nil ?_
          apply tx_back2 (k + 1) (bl)
          · exact (cov_cons (by first | rfl | exact v_int (by omega) | exact v_bool (by simp [*])) (cov_cons (by first | rfl | exact v_int (by omega) | exact v_bool (by simp [*])) (cov_nil)))
          · repeat (first | exact over_nil | refine over_put rfl ?_ | refine over_drop rfl ?_)
          · exact fun w h => h.tail
          · first
              | exact ⟨⟨by omega, hk2 ▸ hb.take (by rw [hk1]; omega) (by omega) (by omega)⟩, by omega⟩
              | exact ⟨⟨by omega, hb.skip (by rw [hk1]; omega)⟩, by omega⟩
              | exact ⟨⟨by omega, hb.keep (by omega) (by omega)⟩, by omega⟩
  · try (exfalso; omega)
    all_goals
      refine tr_exit ?_
      refine tx_then_exit ?_
      refine tx_then_exit ?_
      refine tx_in_exit ?_
      refine tx_then ?_
      refine tr_seq ?_
      refine tr_seq ?_
      refine tr_region ?_
      refine tl_step rfl (oj_val (y_move (fe_t rfl)) ?_)
      refine tl_step rfl (oj_val (y_lss (fe_t rfl) fe_c) ?_)
      refine tl_nil ?_
      refine tx_then ?_
      refine tr_condp (fe_t rfl) (fun hq9 => ?_) (fun hq10 => ?_)
      · try (exfalso; omega)
        all_goals
          refine tr_seq ?_
          refine tr_region ?_
          refine tl_step rfl (oj_val (y_assign fe_c) ?_)
          refine tl_nil ?_
          refine tx_then ?_
          refine tr_ret ?_
          refine tx_then_ret ?_
          refine tx_ret (res1 Try.results174 (rok_t rfl)) (fun w' hS => ?_)
          have h1 := pickT (l := [_, _, _]) hS [0, 1, 2] rfl (by decide)
          exact ⟨(-1, tm), .inl ⟨rfl, rfl, lb_none (n := n) (k := k) (by omega) hb (by omega)⟩, rfl, h1⟩
      · try (exfalso; omega)
        all_goals
          refine tr_skip ?_
          refine tx_then ?_
          refine tr_seq ?_
          obtain ⟨k0, hk0⟩ : ∃ k0 : Nat, k0 = n := ⟨n, rfl⟩
          have hb := lb_at (k := k) hb (show k = k0 by omega)
          refine tr_region ?_
          refine tl_step rfl (oj_val (y_move (fe_t rfl)) ?_)
          refine tl_step rfl (oj_val (y_move (fe_t rfl)) ?_)
          refine tl_step rfl (oj_val (y_nilCheck (fe_t rfl)) ?_)
          refine tl_step rfl (oj_val (y_fieldAddr (td := 3) Try.underlying172 rfl rfl Try.sizeOf3 (o' := 3) rfl (fe_t rfl)) ?_)
          refine tl_step rfl (oj_val (y_ldb 0 Try.isAgg3 (fe_t rfl) rfl rfl) ?_)
          refine tl_step rfl (oj_val (y_move (fe_t rfl)) ?_)
          refine tl_step rfl (oj_val (y_max (fe_t rfl) (fe_t rfl)) ?_)
          refine tl_step rfl (oj_val (y_nilCheck (fe_t rfl)) ?_)
          refine tl_step rfl (oj_val (y_fieldAddr (td := 3) Try.underlying172 rfl rfl Try.sizeOf3 (o' := 3) rfl (fe_t rfl)) ?_)
          refine tl_step rfl (oj_store1 0 Try.sizeOf3 (fe_t rfl) (fe_t rfl) rfl rfl rfl rfl (?_))
          refine tl_nil ?_
          refine tx_then ?_
          refine tr_seq ?_
          refine tr_region ?_
          refine tl_step rfl (oj_val (y_assign fe_c) ?_)
          refine tl_nil ?_
          refine tx_then ?_
          refine tr_seq ?_
          refine tr_seq ?_
          refine tr_region ?_
          refine tl_step rfl (oj_val (y_move (fe_t rfl)) ?_)
          refine tl_step rfl (oj_val (y_nilCheck (fe_t rfl)) ?_)
          refine tl_step rfl (oj_val (y_fieldAddr (td := 170) Try.underlying172 rfl rfl Try.sizeOf170 (o' := 1) rfl (fe_t rfl)) ?_)
          refine tl_step rfl (oj_val (y_ldb 0 Try.isAgg170 (fe_t rfl) rfl rfl) ?_)
          refine tl_step rfl (oj_val (y_len Try.underlying170 (fe_t rfl)) ?_)
          refine tl_step rfl (oj_val (y_move fe_c) ?_)
          refine tl_nil ?_
          refine tx_then ?_
          refine tr_block ?_
          refine tr_loop2 [6, 7, 8, 51, 52, 53, 54, 55, 56, 57, 58, 59, 60, 61, 62, 63, 64, 65, 66, 67, 68, 69, 70, 71, 72, 73, 74, 75, 76, 77, 78, 79, 80, 81, 82, 83, 84, 85, 86, 87] (fun (k : Nat) (bm : Int) => [(51, .int .i64 (k : Int)), (6, .int .i64 bm)]) 0 (fun (k : Nat) (bm : Int) => []) (fun (k : Nat) (bm : Int) => k ≤ n ∧ Mb fs (max tm bl) k bm) (fun (k : Nat) (bm : Int) => n - k) (0) (-1) (cov_cons (by first | rfl | exact v_int (by omega) | exact v_bool (by simp [*])) (cov_cons (by first | rfl | exact v_int (by omega) | exact v_bool (by simp [*])) (cov_nil))) (fun w h => h) ?_ ?_
          · try dsimp only
            exact ⟨by omega, mb_zero fs _⟩
          intro k bm hp
          obtain ⟨hk, hm⟩ := hp
          have hmc := hm.cases
          have hbm : (gq fs bm.toNat).en = (l.getD bm.toNat Fl.nil).en := by rw [flq hq]; rfl
          refine tr_seq ?_
          refine tr_region ?_
          refine tl_step rfl (oj_val (y_lss (fe_t rfl) (fe_t rfl)) ?_)
          refine tl_nil ?_
          refine tx_then ?_
          refine tr_seq ?_
          refine tr_condp (fe_t rfl) (fun hq11 => ?_) (fun hq12 => ?_)
          · try (exfalso; omega)
            all_goals
              refine tr_skip ?_
              refine tx_then ?_
              refine tr_seq ?_
              refine tr_block ?_
              refine tr_seq ?_
              refine tr_region ?_
              refine tl_step rfl (oj_val (y_move (fe_t rfl)) ?_)
              refine tl_step rfl (oj_val (y_index Try.underlying170 Try.sizeOf179 (fe_t rfl) (fe_t rfl) (rdl_vec 1 rfl) (by rw [flat_len hcF]; omega) (by decide) (by omega) rfl) ?_)
              refine tl_step rfl (oj_val (y_ldA (cs := cF (l.getD k Fl.nil)) Try.isAgg179 Try.sizeOf179 (fe_t rfl) (rdl_vec 1 rfl) rfl (by decide) (flatGA (d := Fl.nil) hcF (by omega))) ?_)
              refine tl_step rfl (oj_alloc Try.zeroValue179 (fun bh => ?_))
              refine tl_step rfl (oj_val (y_assign (fe_t rfl)) ?_)
              refine tl_step rfl (oj_storeW 0 Try.sizeOf179 (fe_t rfl) (fe_t rfl) rfl rfl rfl rfl rfl (?_))
              refine tl_nil ?_
              refine tx_then ?_
              refine tr_seq ?_
              have hgk : (gq fs k).bs = (l.getD k Fl.nil).bs ∧ (gq fs k).bg = (l.getD k Fl.nil).bg ∧ (gq fs k).en = (l.getD k Fl.nil).en := by rw [flq hq k]; exact ⟨rfl, rfl, rfl⟩
              obtain ⟨hk1, hk2, hk3⟩ := hgk
              have hok := hok k
              refine tb_draw1 30 [_, _, _, _] [_, _, _, _] (fun w h => h.pick [0, 1, 2, 3] _ rfl (by decide)) (fun w h => h.pick [0, 1, 2, 3] _ rfl (by decide)) rfl ?_
              refine tb_float (i := 0) rfl (by kernel_rfl) rfl (wants_none rfl) (yq_of (y_fieldAddr (td := 79) Try.underlying179 rfl rfl Try.sizeOf79 (o' := 0) rfl (fe_t rfl))) ?_
              refine tb_float (i := 1) rfl (by kernel_rfl) rfl (wants_none rfl) (yq_of (y_ldb 0 Try.isAgg79 (fe_t rfl) rfl rfl)) ?_
              refine tb_float (i := 2) rfl (by kernel_rfl) rfl (wants_none rfl) (yq_of (y_len Try.underlying79 (fe_t rfl))) ?_
              refine tb_float (i := 3) rfl (by kernel_rfl) rfl (wants_none rfl) (yq_of (y_gtr (fe_t rfl) fe_c)) ?_
              refine tb_float (i := 4) rfl (by kernel_rfl) rfl (wants_none rfl) (yq_of (y_move (fe_t rfl))) ?_
              refine tb_splitp (d := 60) rfl (fun hq13 => ?_) (fun hq14 => ?_)
              · try (exfalso; omega)
                all_goals
                  refine tb_float (i := 5) rfl (by kernel_rfl) rfl (wants_t rfl rfl rfl) (yq_of (y_fieldAddr (td := 3) Try.underlying179 rfl rfl Try.sizeOf3 (o' := 1) rfl (fe_t rfl))) ?_
                  refine tb_float (i := 6) rfl (by kernel_rfl) rfl (wants_t rfl rfl rfl) (yq_of (y_ldb 0 Try.isAgg3 (fe_t rfl) rfl rfl)) ?_
                  refine tb_float (i := 7) rfl (by kernel_rfl) rfl (wants_t rfl rfl rfl) (yq_of (y_move (fe_t rfl))) ?_
                  refine tb_float (i := 8) rfl (by kernel_rfl) rfl (wants_t rfl rfl rfl) (yq_of (y_nilCheck (fe_t rfl))) ?_
                  refine tb_float (i := 9) rfl (by kernel_rfl) rfl (wants_t rfl rfl rfl) (yq_of (y_fieldAddr (td := 3) Try.underlying172 rfl rfl Try.sizeOf3 (o' := 3) rfl (fe_t rfl))) ?_
                  refine tb_float (i := 10) rfl (by kernel_rfl) rfl (wants_t rfl rfl rfl) (yq_of (y_ldb 1 Try.isAgg3 (fe_t rfl) rfl rfl)) ?_
                  refine tb_float (i := 11) rfl (by kernel_rfl) rfl (wants_t rfl rfl rfl) (yq_of (y_leq (fe_t rfl) (fe_t rfl))) ?_
                  refine tb_float (i := 12) rfl (by kernel_rfl) rfl (wants_none rfl) (yq_of (y_pickt (fe_t rfl) (fe_t rfl))) ?_
                  refine tb_float (i := 13) rfl (by kernel_rfl) rfl (wants_none rfl) (yq_of (y_move (fe_t rfl))) ?_
                  refine tb_splitp (d := 69) rfl (fun hq15 => ?_) (fun hq16 => ?_)
                  · try (exfalso; omega)
                    all_goals
                      refine tb_float (i := 14) rfl (by kernel_rfl) rfl (wants_t rfl rfl rfl) (yq_of (y_move (fe_t rfl))) ?_
                      refine tb_float (i := 15) rfl (by kernel_rfl) rfl (wants_t rfl rfl rfl) (yq_of (y_lss (fe_t rfl) fe_c)) ?_
                      refine tb_float (i := 16) rfl (by kernel_rfl) rfl (wants_t rfl rfl rfl) (yq_of (y_move (fe_t rfl))) ?_
                      refine tb_splitp (d := 72) rfl (fun hq17 => ?_) (fun hq18 => ?_)
                      · try (exfalso; omega)
                        all_goals
                          refine tb_skip (i := 17) rfl (by kernel_rfl) rfl (wants_f rfl rfl rfl rfl) ?_
                          refine tb_skip (i := 18) rfl (by kernel_rfl) rfl (wants_f rfl rfl rfl rfl) ?_
                          refine tb_skip (i := 19) rfl (by kernel_rfl) rfl (wants_f rfl rfl rfl rfl) ?_
                          refine tb_skip (i := 20) rfl (by kernel_rfl) rfl (wants_f rfl rfl rfl rfl) ?_
                          refine tb_skip (i := 21) rfl (by kernel_rfl) rfl (wants_f rfl rfl rfl rfl) ?_
                          refine tb_skip (i := 22) rfl (by kernel_rfl) rfl (wants_f rfl rfl rfl rfl) ?_
                          refine tb_skip (i := 23) rfl (by kernel_rfl) rfl (wants_f rfl rfl rfl rfl) ?_
                          refine tb_skip (i := 24) rfl (by kernel_rfl) rfl (wants_f rfl rfl rfl rfl) ?_
                          refine tb_skip (i := 25) rfl (by kernel_rfl) rfl (wants_f rfl rfl rfl rfl) ?_
                          refine tb_skip (i := 26) rfl (by kernel_rfl) rfl (wants_f rfl rfl rfl rfl) ?_
                          refine tb_skip (i := 27) rfl (by kernel_rfl) rfl (wants_f rfl rfl rfl rfl) ?_
                          refine tb_float (i := 28) rfl (by kernel_rfl) rfl (wants_t rfl rfl rfl) (yq_of (y_pickt (fe_t rfl) fe_c)) ?_
                          refine tb_float (i := 29) rfl (by kernel_rfl) rfl (wants_none rfl) (yq_of (y_pickt (fe_t rfl) (fe_t rfl))) ?_
                          refine tb_done (by kernel_rfl) ?_
                          refine tx_then ?_
                          refine tr_condt (fe_t rfl) ?_
                          refine tr_region ?_
                          refine tl_step rfl (oj_val (y_move (fe_t rfl)) ?_)
                          refine tl_step rfl (oj_val (y_assign (fe_t rfl)) ?_)
                          refine tl_nil ?_
                          refine tx_in ?_
                          refine tx_then ?_
                          refine tr_region ?_
                          refine tl_step rfl (oj_val (y_inc (fe_t rfl) fe_c (by omega)) ?_)
                          refine tl_step rfl (oj_val (y_move (fe_t rfl)) ?_)
                          refine tl_nil ?_
                          apply tx_back2 (k + 1) ((k : Int))
                          · exact (cov_cons (by first | rfl | exact v_int (by omega) | exact v_bool (by simp [*])) (cov_cons (by first | rfl | exact v_int (by omega) | exact v_bool (by simp [*])) (cov_nil)))
                          · repeat (first | exact over_nil | refine over_put rfl ?_ | refine over_drop rfl ?_)
                          · exact fun w h => h.tail
                          · first
                              | exact ⟨⟨by omega, hm.take (by rw [hk1]; omega) (by omega) (by omega)⟩, by omega⟩
                              | exact ⟨⟨by omega, hm.skip (by rw [hk1]; omega)⟩, by omega⟩
                              | exact ⟨⟨by omega, hm.keep (by omega) (by omega)⟩, by omega⟩
                      · try (exfalso; omega)
                        all_goals
                          refine tb_float (i := 17) rfl (by kernel_rfl) rfl (wants_t rfl rfl rfl) (yq_of (y_fieldAddr (td := 3) Try.underlying179 rfl rfl Try.sizeOf3 (o' := 2) rfl (fe_t rfl))) ?_
                          refine tb_float (i := 18) rfl (by kernel_rfl) rfl (wants_t rfl rfl rfl) (yq_of (y_ldb 0 Try.isAgg3 (fe_t rfl) rfl rfl)) ?_
                          refine tb_float (i := 19) rfl (by kernel_rfl) rfl (wants_t rfl rfl rfl) (yq_of (y_move (fe_t rfl))) ?_
                          refine tb_float (i := 20) rfl (by kernel_rfl) rfl (wants_t rfl rfl rfl) (yq_of (y_nilCheck (fe_t rfl))) ?_
                          refine tb_float (i := 21) rfl (by kernel_rfl) rfl (wants_t rfl rfl rfl) (yq_of (y_fieldAddr (td := 170) Try.underlying172 rfl rfl Try.sizeOf170 (o' := 1) rfl (fe_t rfl))) ?_
                          refine tb_float (i := 22) rfl (by kernel_rfl) rfl (wants_t rfl rfl rfl) (yq_of (y_ldb 1 Try.isAgg170 (fe_t rfl) rfl rfl)) ?_
                          refine tb_float (i := 23) rfl (by kernel_rfl) rfl (wants_t rfl rfl rfl) (yq_of (y_move (fe_t rfl))) ?_
                          refine tb_float (i := 24) rfl (by kernel_rfl) rfl (wants_t rfl rfl rfl) (yq_of (y_indexI Try.underlying170 Try.sizeOf179 (fe_t rfl) (fe_t rfl) (rdl_vec 2 rfl) (by rw [flat_len hcF]; omega) (by decide) (by omega) (by omega) rfl)) ?_
                          refine tb_float (i := 25) rfl (by kernel_rfl) rfl (wants_t rfl rfl rfl) (yq_of (y_fieldAddrE (td := 3) Try.underlying179 rfl rfl Try.sizeOf3 rfl (fe_t rfl) (rdl_vec 2 rfl) (by rw [flat_len hcF]; omega))) ?_
                          refine tb_float (i := 26) rfl (by kernel_rfl) rfl (wants_t rfl rfl rfl) (yq_of (y_ld Try.isAgg3 (fe_t rfl) (rdl_vec 2 rfl) (flatG (d := Fl.nil) (i := 2) hcF (by omega) rfl))) ?_
                          refine tb_float (i := 27) rfl (by kernel_rfl) rfl (wants_t rfl rfl rfl) (yq_of (y_lss (fe_t rfl) (fe_t rfl))) ?_
                          refine tb_float (i := 28) rfl (by kernel_rfl) rfl (wants_t rfl rfl rfl) (yq_of (y_pickf (fe_t rfl) (fe_t rfl))) ?_
                          refine tb_float (i := 29) rfl (by kernel_rfl) rfl (wants_none rfl) (yq_of (y_pickt (fe_t rfl) (fe_t rfl))) ?_
                          refine tb_done (by kernel_rfl) ?_
                          refine tx_then ?_
                          refine tr_condp (fe_t rfl) (fun hq19 => ?_) (fun hq20 => ?_)
                          · try (exfalso; omega)
                            all_goals
                              refine tr_region ?_
                              refine tl_step rfl (oj_val (y_move (fe_t rfl)) ?_)
                              refine tl_step rfl (oj_val (y_assign (fe_t rfl)) ?_)
                              refine tl_nil ?_
                              refine tx_in ?_
                              refine tx_then ?_
                              refine tr_region ?_
                              refine tl_step rfl (oj_val (y_inc (fe_t rfl) fe_c (by omega)) ?_)
                              refine tl_step rfl (oj_val (y_move (fe_t rfl)) ?_)
                              refine tl_nil ?_
                              apply tx_back2 (k + 1) ((k : Int))
                              · exact (cov_cons (by first | rfl | exact v_int (by omega) | exact v_bool (by simp [*])) (cov_cons (by first | rfl | exact v_int (by omega) | exact v_bool (by simp [*])) (cov_nil)))
                              · repeat (first | exact over_nil | refine over_put rfl ?_ | refine over_drop rfl ?_)
                              · exact fun w h => h.tail
                              · first
                                  | exact ⟨⟨by omega, hm.take (by rw [hk1]; omega) (by omega) (by omega)⟩, by omega⟩
                                  | exact ⟨⟨by omega, hm.skip (by rw [hk1]; omega)⟩, by omega⟩
                                  | exact ⟨⟨by omega, hm.keep (by omega) (by omega)⟩, by omega⟩
                          · try (exfalso; omega)
                            all_goals
                              refine tr_skip ?_
                              refine tx_in ?_
                              refine tx_then ?_
                              refine tr_region ?_
                              refine tl_step rfl (oj_val (y_inc (fe_t rfl) fe_c (by omega)) ?_)
                              refine tl_step rfl (oj_val (y_move (fe_t rfl)) ?_)
                              refine tl_nil ?_
                              apply tx_back2 (k + 1) (bm)
                              · exact (cov_cons (by first | rfl | exact v_int (by omega) | exact v_bool (by simp [*])) (cov_cons (by first | rfl | exact v_int (by omega) | exact v_bool (by simp [*])) (cov_nil)))
                              · repeat (first | exact over_nil | refine over_put rfl ?_ | refine over_drop rfl ?_)
                              · exact fun w h => h.tail
                              · first
                                  | exact ⟨⟨by omega, hm.take (by rw [hk1]; omega) (by omega) (by omega)⟩, by omega⟩
                                  | exact ⟨⟨by omega, hm.skip (by rw [hk1]; omega)⟩, by omega⟩
                                  | exact ⟨⟨by omega, hm.keep (by omega) (by omega)⟩, by omega⟩
                  · try (exfalso; omega)
                    all_goals
                      refine tb_skip (i := 14) rfl (by kernel_rfl) rfl (wants_f rfl rfl rfl rfl) ?_
                      refine tb_skip (i := 15) rfl (by kernel_rfl) rfl (wants_f rfl rfl rfl rfl) ?_
                      refine tb_skip (i := 16) rfl (by kernel_rfl) rfl (wants_f rfl rfl rfl rfl) ?_
                      refine tb_skip (i := 17) rfl (by kernel_rfl) rfl (wants_undef rfl rfl rfl) ?_
                      refine tb_skip (i := 18) rfl (by kernel_rfl) rfl (wants_undef rfl rfl rfl) ?_
                      refine tb_skip (i := 19) rfl (by kernel_rfl) rfl (wants_undef rfl rfl rfl) ?_
                      refine tb_skip (i := 20) rfl (by kernel_rfl) rfl (wants_undef rfl rfl rfl) ?_
                      refine tb_skip (i := 21) rfl (by kernel_rfl) rfl (wants_undef rfl rfl rfl) ?_
                      refine tb_skip (i := 22) rfl (by kernel_rfl) rfl (wants_undef rfl rfl rfl) ?_
                      refine tb_skip (i := 23) rfl (by kernel_rfl) rfl (wants_undef rfl rfl rfl) ?_
                      refine tb_skip (i := 24) rfl (by kernel_rfl) rfl (wants_undef rfl rfl rfl) ?_
                      refine tb_skip (i := 25) rfl (by kernel_rfl) rfl (wants_undef rfl rfl rfl) ?_
                      refine tb_skip (i := 26) rfl (by kernel_rfl) rfl (wants_undef rfl rfl rfl) ?_
                      refine tb_skip (i := 27) rfl (by kernel_rfl) rfl (wants_undef rfl rfl rfl) ?_
                      refine tb_skip (i := 28) rfl (by kernel_rfl) rfl (wants_f rfl rfl rfl rfl) ?_
                      refine tb_float (i := 29) rfl (by kernel_rfl) rfl (wants_none rfl) (yq_of (y_pickf (fe_t rfl) fe_c)) ?_
                      refine tb_done (by kernel_rfl) ?_
                      refine tx_then ?_
                      refine tr_condf (fe_t rfl) ?_
                      refine tr_skip ?_
                      refine tx_in ?_
                      refine tx_then ?_
                      refine tr_region ?_
                      refine tl_step rfl (oj_val (y_inc (fe_t rfl) fe_c (by omega)) ?_)
                      refine tl_step rfl (oj_val (y_move (fe_t rfl)) ?_)
                      refine tl_nil ?_
                      apply tx_back2 (k + 1) (bm)
                      · exact (cov_cons (by first | rfl | exact v_int (by omega) | exact v_bool (by simp [*])) (cov_cons (by first | rfl | exact v_int (by omega) | exact v_bool (by simp [*])) (cov_nil)))
                      · repeat (first | exact over_nil | refine over_put rfl ?_ | refine over_drop rfl ?_)
                      · exact fun w h => h.tail
                      · first
                          | exact ⟨⟨by omega, hm.take (by rw [hk1]; omega) (by omega) (by omega)⟩, by omega⟩
                          | exact ⟨⟨by omega, hm.skip (by rw [hk1]; omega)⟩, by omega⟩
                          | exact ⟨⟨by omega, hm.keep (by omega) (by omega)⟩, by omega⟩
              · try (exfalso; omega)
                all_goals
                  refine tb_skip (i := 5) rfl (by kernel_rfl) rfl (wants_f rfl rfl rfl rfl) ?_
                  refine tb_skip (i := 6) rfl (by kernel_rfl) rfl (wants_f rfl rfl rfl rfl) ?_
                  refine tb_skip (i := 7) rfl (by kernel_rfl) rfl (wants_f rfl rfl rfl rfl) ?_
                  refine tb_skip (i := 8) rfl (by kernel_rfl) rfl (wants_f rfl rfl rfl rfl) ?_
                  refine tb_skip (i := 9) rfl (by kernel_rfl) rfl (wants_f rfl rfl rfl rfl) ?_
                  refine tb_skip (i := 10) rfl (by kernel_rfl) rfl (wants_f rfl rfl rfl rfl) ?_
                  refine tb_skip (i := 11) rfl (by kernel_rfl) rfl (wants_f rfl rfl rfl rfl) ?_
                  refine tb_float (i := 12) rfl (by kernel_rfl) rfl (wants_none rfl) (yq_of (y_pickf (fe_t rfl) fe_c)) ?_
                  refine tb_float (i := 13) rfl (by kernel_rfl) rfl (wants_none rfl) (yq_of (y_move (fe_t rfl))) ?_
                  refine tb_skip (i := 14) rfl (by kernel_rfl) rfl (wants_f rfl rfl rfl rfl) ?_
                  refine tb_skip (i := 15) rfl (by kernel_rfl) rfl (wants_f rfl rfl rfl rfl) ?_
                  refine tb_skip (i := 16) rfl (by kernel_rfl) rfl (wants_f rfl rfl rfl rfl) ?_
                  refine tb_skip (i := 17) rfl (by kernel_rfl) rfl (wants_undef rfl rfl rfl) ?_
                  refine tb_skip (i := 18) rfl (by kernel_rfl) rfl (wants_undef rfl rfl rfl) ?_
                  refine tb_skip (i := 19) rfl (by kernel_rfl) rfl (wants_undef rfl rfl rfl) ?_
                  refine tb_skip (i := 20) rfl (by kernel_rfl) rfl (wants_undef rfl rfl rfl) ?_
                  refine tb_skip (i := 21) rfl (by kernel_rfl) rfl (wants_undef rfl rfl rfl) ?_
                  refine tb_skip (i := 22) rfl (by kernel_rfl) rfl (wants_undef rfl rfl rfl) ?_
                  refine tb_skip (i := 23) rfl (by kernel_rfl) rfl (wants_undef rfl rfl rfl) ?_
                  refine tb_skip (i := 24) rfl (by kernel_rfl) rfl (wants_undef rfl rfl rfl) ?_
                  refine tb_skip (i := 25) rfl (by kernel_rfl) rfl (wants_undef rfl rfl rfl) ?_
                  refine tb_skip (i := 26) rfl (by kernel_rfl) rfl (wants_undef rfl rfl rfl) ?_
                  refine tb_skip (i := 27) rfl (by kernel_rfl) rfl (wants_undef rfl rfl rfl) ?_
                  refine tb_skip (i := 28) rfl (by kernel_rfl) rfl (wants_f rfl rfl rfl rfl) ?_
                  refine tb_float (i := 29) rfl (by kernel_rfl) rfl (wants_none rfl) (yq_of (y_pickf (fe_t rfl) fe_c)) ?_
                  refine tb_done (by kernel_rfl) ?_
                  refine tx_then ?_
                  refine tr_condf (fe_t rfl) ?_
                  refine tr_skip ?_
                  refine tx_in ?_
                  refine tx_then ?_
                  refine tr_region ?_
                  refine tl_step rfl (oj_val (y_inc (fe_t rfl) fe_c (by omega)) ?_)
                  refine tl_step rfl (oj_val (y_move (fe_t rfl)) ?_)
                  refine tl_nil ?_
                  apply tx_back2 (k + 1) (bm)
                  · exact (cov_cons (by first | rfl | exact v_int (by omega) | exact v_bool (by simp [*])) (cov_cons (by first | rfl | exact v_int (by omega) | exact v_bool (by simp [*])) (cov_nil)))
                  · repeat (first | exact over_nil | refine over_put rfl ?_ | refine over_drop rfl ?_)
                  · exact fun w h => h.tail
                  · first
                      | exact ⟨⟨by omega, hm.take (by rw [hk1]; omega) (by omega) (by omega)⟩, by omega⟩
                      | exact ⟨⟨by omega, hm.skip (by rw [hk1]; omega)⟩, by omega⟩
                      | exact ⟨⟨by omega, hm.keep (by omega) (by omega)⟩, by omega⟩
          · try (exfalso; omega)
            all_goals
              refine tr_exit ?_
              refine tx_then_exit ?_
              refine tx_then_exit ?_
              refine tx_in_exit ?_
              refine tx_then ?_
              refine tr_seq ?_
              refine tr_region ?_
              refine tl_step rfl (oj_val (y_move (fe_t rfl)) ?_)
              refine tl_step rfl (oj_val (y_assign (fe_t rfl)) ?_)
              refine tl_nil ?_
              refine tx_then ?_
              refine tr_ret ?_
              refine tx_ret (res1 Try.results174 (rok_t rfl)) (fun w' hS => ?_)
              have h1 := pickT (l := [_, _, _]) hS [0, 1, 2] rfl (by decide)
              obtain ⟨hl1, hl2⟩ := lb_some (n := n) (k := k0) (by omega) hb (by omega)
              obtain ⟨q, hq1, hq2⟩ := mb_some (n := n) (k := k) (by omega) hm hl2
              exact ⟨(bm, max tm bl), .inr ⟨q, bl, hq1, hl2, rfl, hq2⟩, rfl, h1⟩

end Go.Proofs.Ytcpdelkamckmfaa.Wfq
