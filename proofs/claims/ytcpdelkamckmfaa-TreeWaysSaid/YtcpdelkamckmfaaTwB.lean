/- tree.Meet, QPath. -/
import Derived.Test.YtcpdelkamckmfaaTwA
namespace Go.Proofs.Ytcpdelkamckmfaa.Hier
open Go.RowKit Go.Proofs.Ytcpdelkamckmfaa.E Go.Proofs.Ytcpdelkamckmfaa.Frac

set_option maxRecDepth 100000 in
set_option maxHeartbeats 1000000 in
theorem meet_w_ (A : Option Addr) (n c : Nat) (ns : List (Int × Int)) (w : World) (hr : Rd w A (ns.flatMap c2)) (hn : ns.length = n) (hm : n ≤ 140737488355328) {a b : Int} (hw : ¬ wrongT ns = 0) :
    Calls Try.prog 87 #[.slice A n c, (.int .i64 a), (.int .i64 b)] w fun e w' => e = .returned (.tuple #[(.int .i64 0), (.int .i64 (wrongT ns))]) ∧ St w w' [] := by
  refine calls_tr Try.func87 Try.ntmps87 rfl rfl (St.refl _) ?_
  refine tr_seq ?_
  refine tr_region ?_
  refine tl_step rfl (oj_val (y_assign fe_c) ?_)
  refine tl_step rfl (oj_val (y_assign fe_c) ?_)
  refine tl_nil ?_
  refine tx_then ?_
  refine tr_seq ?_
  refine tr_region ?_
  refine tl_step rfl (oj_val (y_move (fe_t rfl)) ?_)
  refine tl_step rfl (oj_val (y_move (fe_t rfl)) ?_)
  refine tl_step rfl (oj_callv Try.call85 fe_f (fel_cons (fe_t rfl) (fel_cons (fe_t rfl) fel_nil)) (fun w' hS => path_w A n c ns w' (Rd.below hr hS.below) hn hm hw) ?_)
  refine tl_step rfl (oj_val (y_move (fe_t rfl)) ?_)
  refine tl_step rfl (oj_val (y_extract (fe_t rfl) rfl) ?_)
  refine tl_step rfl (oj_val (y_extract (fe_t rfl) rfl) ?_)
  refine tl_step rfl (oj_val (y_assign (fe_t rfl)) ?_)
  refine tl_step rfl (oj_val (y_assign (fe_t rfl)) ?_)
  refine tl_nil ?_
  refine tx_then ?_
  refine tr_seq ?_
  refine tr_seq ?_
  refine tr_region ?_
  refine tl_step rfl (oj_val (y_move (fe_t rfl)) ?_)
  refine tl_step rfl (oj_val (y_neq (fe_t rfl) fe_c) ?_)
  refine tl_nil ?_
  refine tx_then ?_
  refine tr_condp (fe_t rfl) (fun hq1 => ?_) (fun hq2 => ?_)
  · try (exfalso; omega)
    all_goals
      refine tr_seq ?_
      refine tr_region ?_
      refine tl_step rfl (oj_val (y_move (fe_t rfl)) ?_)
      refine tl_step rfl (oj_val (y_assign fe_c) ?_)
      refine tl_step rfl (oj_val (y_assign (fe_t rfl)) ?_)
      refine tl_nil ?_
      refine tx_then ?_
      refine tr_ret ?_
      refine tx_then_ret ?_
      refine tx_ret (res2 Try.results87 (rok_t rfl) (rok_t rfl)) (fun w' hS => ?_)
      exact ⟨rfl, hS.pick [] _ rfl (by decide)⟩
  · exact absurd (by simpa using hq2) hw

set_option maxRecDepth 100000 in
set_option maxHeartbeats 1000000 in
theorem meet_n_ (A : Option Addr) (n c : Nat) (ns : List (Int × Int)) (w : World) (hr : Rd w A (ns.flatMap c2)) (hn : ns.length = n) (hm : n ≤ 140737488355328) {a b : Int} (hw : wrongT ns = 0) (ha : a < 0 ∨ (n : Int) ≤ a) :
    Calls Try.prog 87 #[.slice A n c, (.int .i64 a), (.int .i64 b)] w fun e w' => e = .returned (.tuple #[(.int .i64 0), (.int .i64 3)]) ∧ St w w' [] := by
  refine calls_tr Try.func87 Try.ntmps87 rfl rfl (St.refl _) ?_
  refine tr_seq ?_
  refine tr_region ?_
  refine tl_step rfl (oj_val (y_assign fe_c) ?_)
  refine tl_step rfl (oj_val (y_assign fe_c) ?_)
  refine tl_nil ?_
  refine tx_then ?_
  refine tr_seq ?_
  refine tr_region ?_
  refine tl_step rfl (oj_val (y_move (fe_t rfl)) ?_)
  refine tl_step rfl (oj_val (y_move (fe_t rfl)) ?_)
  refine tl_step rfl (oj_callv Try.call85 fe_f (fel_cons (fe_t rfl) (fel_cons (fe_t rfl) fel_nil)) (fun w' hS => path_n A n c ns w' (Rd.below hr hS.below) hn hm hw ha) ?_)
  refine tl_step rfl (oj_val (y_move (fe_t rfl)) ?_)
  refine tl_step rfl (oj_val (y_extract (fe_t rfl) rfl) ?_)
  refine tl_step rfl (oj_val (y_extract (fe_t rfl) rfl) ?_)
  refine tl_step rfl (oj_val (y_assign (fe_t rfl)) ?_)
  refine tl_step rfl (oj_val (y_assign (fe_t rfl)) ?_)
  refine tl_nil ?_
  refine tx_then ?_
  refine tr_seq ?_
  refine tr_seq ?_
  refine tr_region ?_
  refine tl_step rfl (oj_val (y_move (fe_t rfl)) ?_)
  refine tl_step rfl (oj_val (y_neq (fe_t rfl) fe_c) ?_)
  refine tl_nil ?_
  refine tx_then ?_
  refine tr_condp (fe_t rfl) (fun hq1 => ?_) (fun hq2 => ?_)
  · try (exfalso; omega)
    all_goals
      refine tr_seq ?_
      refine tr_region ?_
      refine tl_step rfl (oj_val (y_move (fe_t rfl)) ?_)
      refine tl_step rfl (oj_val (y_assign fe_c) ?_)
      refine tl_step rfl (oj_val (y_assign (fe_t rfl)) ?_)
      refine tl_nil ?_
      refine tx_then ?_
      refine tr_ret ?_
      refine tx_then_ret ?_
      refine tx_ret (res2 Try.results87 (rok_t rfl) (rok_t rfl)) (fun w' hS => ?_)
      exact ⟨rfl, hS.pick [] _ rfl (by decide)⟩
  · exfalso; omega

set_option maxRecDepth 100000 in
set_option maxHeartbeats 1000000 in
theorem meet_b_ (A : Option Addr) (n c : Nat) (ns : List (Int × Int)) (w : World) (hr : Rd w A (ns.flatMap c2)) (hn : ns.length = n) (hm : n ≤ 140737488355328) {t : Tr} (ht : t = trOf ns) (g : t.Good) (hw : wrongT ns = 0) {a : Nat} {b : Int} (ha : a < t.n) (hb : b < 0 ∨ (n : Int) ≤ b) :
    Calls Try.prog 87 #[.slice A n c, (.int .i64 ((a : Int))), (.int .i64 b)] w fun e w' => e = .returned (.tuple #[(.int .i64 0), (.int .i64 3)]) ∧ St w w' [] := by
  refine calls_tr Try.func87 Try.ntmps87 rfl rfl (St.refl _) ?_
  refine tr_seq ?_
  refine tr_region ?_
  refine tl_step rfl (oj_val (y_assign fe_c) ?_)
  refine tl_step rfl (oj_val (y_assign fe_c) ?_)
  refine tl_nil ?_
  refine tx_then ?_
  refine tr_seq ?_
  refine tr_region ?_
  refine tl_step rfl (oj_val (y_move (fe_t rfl)) ?_)
  refine tl_step rfl (oj_val (y_move (fe_t rfl)) ?_)
  refine tl_step rfl (oj_call Try.call85 fe_f (fel_cons (fe_t rfl) (fel_cons (fe_t rfl) fel_nil)) (fun w' hS => path_ok A n c ns w' (Rd.below hr hS.below) hn hm ht g hw (a := a) ha) (fun r0 h0 => ?_))
  refine tl_step rfl (oj_val (y_move (fe_t rfl)) ?_)
  refine tl_step rfl (oj_val (y_extract (fe_t rfl) rfl) ?_)
  refine tl_step rfl (oj_val (y_extract (fe_t rfl) rfl) ?_)
  refine tl_step rfl (oj_val (y_assign (fe_t rfl)) ?_)
  refine tl_step rfl (oj_val (y_assign (fe_t rfl)) ?_)
  refine tl_nil ?_
  refine tx_then ?_
  refine tr_seq ?_
  refine tr_seq ?_
  refine tr_region ?_
  refine tl_step rfl (oj_val (y_move (fe_t rfl)) ?_)
  refine tl_step rfl (oj_val (y_neq (fe_t rfl) fe_c) ?_)
  refine tl_nil ?_
  refine tx_then ?_
  refine tr_condp (fe_t rfl) (fun hq1 => ?_) (fun hq2 => ?_)
  · exact absurd rfl hq1
  · try (exfalso; omega)
    all_goals
      refine tr_skip ?_
      refine tx_then ?_
      refine tr_seq ?_
      refine tr_region ?_
      refine tl_step rfl (oj_val (y_move (fe_t rfl)) ?_)
      refine tl_step rfl (oj_val (y_move (fe_t rfl)) ?_)
      refine tl_step rfl (oj_callv Try.call85 fe_f (fel_cons (fe_t rfl) (fel_cons (fe_t rfl) fel_nil)) (fun w' hS => path_n A n c ns w' (Rd.below hr hS.below) hn hm hw hb) ?_)
      refine tl_step rfl (oj_val (y_move (fe_t rfl)) ?_)
      refine tl_step rfl (oj_val (y_extract (fe_t rfl) rfl) ?_)
      refine tl_step rfl (oj_val (y_extract (fe_t rfl) rfl) ?_)
      refine tl_step rfl (oj_val (y_assign (fe_t rfl)) ?_)
      refine tl_step rfl (oj_val (y_assign (fe_t rfl)) ?_)
      refine tl_nil ?_
      refine tx_then ?_
      refine tr_seq ?_
      refine tr_seq ?_
      refine tr_region ?_
      refine tl_step rfl (oj_val (y_move (fe_t rfl)) ?_)
      refine tl_step rfl (oj_val (y_neq (fe_t rfl) fe_c) ?_)
      refine tl_nil ?_
      refine tx_then ?_
      refine tr_condp (fe_t rfl) (fun hq3 => ?_) (fun hq4 => ?_)
      · try (exfalso; omega)
        all_goals
          refine tr_seq ?_
          refine tr_region ?_
          refine tl_step rfl (oj_val (y_move (fe_t rfl)) ?_)
          refine tl_step rfl (oj_val (y_assign fe_c) ?_)
          refine tl_step rfl (oj_val (y_assign (fe_t rfl)) ?_)
          refine tl_nil ?_
          refine tx_then ?_
          refine tr_ret ?_
          refine tx_then_ret ?_
          refine tx_ret (res2 Try.results87 (rok_t rfl) (rok_t rfl)) (fun w' hS => ?_)
          exact ⟨rfl, hS.pick [] _ rfl (by decide)⟩
      · exfalso; omega

set_option maxRecDepth 100000 in
set_option maxHeartbeats 2000000 in
theorem meet_ok_ (A : Option Addr) (n c : Nat) (ns : List (Int × Int)) (w : World) (hr : Rd w A (ns.flatMap c2)) (hn : ns.length = n) (hm : n ≤ 140737488355328) {t : Tr} (ht : t = trOf ns) (g : t.Good) (hw : wrongT ns = 0) {a b : Nat} (ha : a < t.n) (hb : b < t.n) :
    Calls Try.prog 87 #[.slice A n c, (.int .i64 ((a : Int))), (.int .i64 ((b : Int)))] w fun e w' => ∃ m : Nat, MeetAt (path t a) (path t b) m ∧ e = .returned (.tuple #[(.int .i64 (((path t a).getD (m - 1) 0 : Nat))), (.int .i64 0)]) ∧ St w w' [] := by
  have htn : t.n = n := by rw [ht, trOf_n, hn]
  have hn16 := g.n16
  have hn1 := g.n1
  refine calls_tr Try.func87 Try.ntmps87 rfl rfl (St.refl _) ?_
  refine tr_seq ?_
  refine tr_region ?_
  refine tl_step rfl (oj_val (y_assign fe_c) ?_)
  refine tl_step rfl (oj_val (y_assign fe_c) ?_)
  refine tl_nil ?_
  refine tx_then ?_
  refine tr_seq ?_
  refine tr_region ?_
  refine tl_step rfl (oj_val (y_move (fe_t rfl)) ?_)
  refine tl_step rfl (oj_val (y_move (fe_t rfl)) ?_)
  refine tl_step rfl (oj_call Try.call85 fe_f (fel_cons (fe_t rfl) (fel_cons (fe_t rfl) fel_nil)) (fun w' hS => path_ok A n c ns w' (Rd.below hr hS.below) hn hm ht g hw (a := a) ha) (fun r0 h0 => ?_))
  refine tl_step rfl (oj_val (y_move (fe_t rfl)) ?_)
  refine tl_step rfl (oj_val (y_extract (fe_t rfl) rfl) ?_)
  refine tl_step rfl (oj_val (y_extract (fe_t rfl) rfl) ?_)
  refine tl_step rfl (oj_val (y_assign (fe_t rfl)) ?_)
  refine tl_step rfl (oj_val (y_assign (fe_t rfl)) ?_)
  refine tl_nil ?_
  refine tx_then ?_
  refine tr_seq ?_
  refine tr_seq ?_
  refine tr_region ?_
  refine tl_step rfl (oj_val (y_move (fe_t rfl)) ?_)
  refine tl_step rfl (oj_val (y_neq (fe_t rfl) fe_c) ?_)
  refine tl_nil ?_
  refine tx_then ?_
  refine tr_condp (fe_t rfl) (fun hq1 => ?_) (fun hq2 => ?_)
  · exact absurd rfl hq1
  · try (exfalso; omega)
    all_goals
      refine tr_skip ?_
      refine tx_then ?_
      refine tr_seq ?_
      refine tr_region ?_
      refine tl_step rfl (oj_val (y_move (fe_t rfl)) ?_)
      refine tl_step rfl (oj_val (y_move (fe_t rfl)) ?_)
      refine tl_step rfl (oj_call Try.call85 fe_f (fel_cons (fe_t rfl) (fel_cons (fe_t rfl) fel_nil)) (fun w' hS => path_ok A n c ns w' (Rd.below hr hS.below) hn hm ht g hw (a := b) hb) (fun r1 h1 => ?_))
      refine tl_step rfl (oj_val (y_move (fe_t rfl)) ?_)
      refine tl_step rfl (oj_val (y_extract (fe_t rfl) rfl) ?_)
      refine tl_step rfl (oj_val (y_extract (fe_t rfl) rfl) ?_)
      refine tl_step rfl (oj_val (y_assign (fe_t rfl)) ?_)
      refine tl_step rfl (oj_val (y_assign (fe_t rfl)) ?_)
      refine tl_nil ?_
      refine tx_then ?_
      refine tr_seq ?_
      refine tr_seq ?_
      refine tr_region ?_
      refine tl_step rfl (oj_val (y_move (fe_t rfl)) ?_)
      refine tl_step rfl (oj_val (y_neq (fe_t rfl) fe_c) ?_)
      refine tl_nil ?_
      refine tx_then ?_
      refine tr_condp (fe_t rfl) (fun hq3 => ?_) (fun hq4 => ?_)
      · exact absurd rfl hq3
      · try (exfalso; omega)
        all_goals
          refine tr_skip ?_
          refine tx_then ?_
          refine tr_seq ?_
          refine tr_as (r' := vec 3 1 (.slice r0.A r0.n r0.c) r0.n (cI (kI (path t a)))) 1 rfl (congrArg (vec _ _ _ _) h0.2) ?_
          have h01 := h0.1
          have hpa := path_len g a ha
          have hfa := path_first g a ha
          refine tr_as (r' := vec 3 1 (.slice r1.A r1.n r1.c) r1.n (cI (kI (path t b)))) 0 rfl (congrArg (vec _ _ _ _) h1.2) ?_
          have h11 := h1.1
          have hpb := path_len g b hb
          have hfb := path_first g b hb
          refine tr_region ?_
          refine tl_step rfl (oj_val (y_assign fe_c) ?_)
          refine tl_nil ?_
          refine tx_then ?_
          refine tr_seq ?_
          refine tr_block ?_
          refine tr_loop1 [11, 30, 31, 32, 33, 34, 35, 36, 37, 38, 39, 40, 41, 42, 43, 44, 45, 46, 47, 48, 49] (fun (m : Nat) => [(11, .int .i64 (m : Int))]) 0 (fun (m : Nat) => []) (fun (m : Nat) => m ≤ min (path t a).length (path t b).length ∧ ∀ i, i < m → (path t a).getD i 0 = (path t b).getD i 0) (fun (m : Nat) => min (path t a).length (path t b).length - m) (0) (cov_cons (by first | rfl | exact v_int (by omega) | exact v_bool (by simp [*])) (cov_nil)) (fun w h => h) ?_ ?_
          · try dsimp only
            exact ⟨by omega, fun i h => by omega⟩
          intro m hp
          obtain ⟨hm0, hsame⟩ := hp
          refine tr_seq ?_
          refine tr_seq ?_
          refine tb_draw 18 (sel _ [0, 1]) (fun w h => h.sel _ rfl (by decide)) rfl ?_
          refine tb_float (i := 0) rfl (by kernel_rfl) rfl (wants_none rfl) (yq_of (y_move (fe_t rfl))) ?_
          refine tb_float (i := 1) rfl (by kernel_rfl) rfl (wants_none rfl) (yq_of (y_move (fe_t rfl))) ?_
          refine tb_float (i := 2) rfl (by kernel_rfl) rfl (wants_none rfl) (yq_of (y_len Try.underlying79 (fe_t rfl))) ?_
          refine tb_float (i := 3) rfl (by kernel_rfl) rfl (wants_none rfl) (yq_of (y_move (fe_t rfl))) ?_
          refine tb_float (i := 4) rfl (by kernel_rfl) rfl (wants_none rfl) (yq_of (y_len Try.underlying79 (fe_t rfl))) ?_
          refine tb_float (i := 5) rfl (by kernel_rfl) rfl (wants_none rfl) (yq_of (y_min (fe_t rfl) (fe_t rfl))) ?_
          refine tb_float (i := 6) rfl (by kernel_rfl) rfl (wants_none rfl) (yq_of (y_lss (fe_t rfl) (fe_t rfl))) ?_
          refine tb_float (i := 7) rfl (by kernel_rfl) rfl (wants_none rfl) (yq_of (y_move (fe_t rfl))) ?_
          refine tb_splitp (d := 37) rfl (fun hq5 => ?_) (fun hq6 => ?_)
          · try (exfalso; omega)
            all_goals
              refine tb_float (i := 8) rfl (by kernel_rfl) rfl (wants_t rfl rfl rfl) (yq_of (y_move (fe_t rfl))) ?_
              refine tb_float (i := 9) rfl (by kernel_rfl) rfl (wants_t rfl rfl rfl) (yq_of (y_move (fe_t rfl))) ?_
              refine tb_float (i := 10) rfl (by kernel_rfl) rfl (wants_t rfl rfl rfl) (yq_of (y_index Try.underlying79 Try.sizeOf3 (fe_t rfl) (fe_t rfl) (rdl_vec 1 rfl) (by simp [cI, kI_len]; omega) (by decide) (by omega) (Nat.mul_one _))) ?_
              refine tb_float (i := 11) rfl (by kernel_rfl) rfl (wants_t rfl rfl rfl) (yq_of (y_ld Try.isAgg3 (fe_t rfl) (rdl_vec 1 rfl) (getC (by rw [kI_len]; omega)))) ?_
              refine tb_float (i := 12) rfl (by kernel_rfl) rfl (wants_t rfl rfl rfl) (yq_of (y_move (fe_t rfl))) ?_
              refine tb_float (i := 13) rfl (by kernel_rfl) rfl (wants_t rfl rfl rfl) (yq_of (y_move (fe_t rfl))) ?_
              refine tb_float (i := 14) rfl (by kernel_rfl) rfl (wants_t rfl rfl rfl) (yq_of (y_index Try.underlying79 Try.sizeOf3 (fe_t rfl) (fe_t rfl) (rdl_vec 0 rfl) (by simp [cI, kI_len]; omega) (by decide) (by omega) (Nat.mul_one _))) ?_
              refine tb_float (i := 15) rfl (by kernel_rfl) rfl (wants_t rfl rfl rfl) (yq_of (y_ld Try.isAgg3 (fe_t rfl) (rdl_vec 0 rfl) (getC (by rw [kI_len]; omega)))) ?_
              refine tb_float (i := 16) rfl (by kernel_rfl) rfl (wants_t rfl rfl rfl) (yq_of (y_eq (fe_t rfl) (fe_t rfl))) ?_
              refine tb_float (i := 17) rfl (by kernel_rfl) rfl (wants_none rfl) (yq_of (y_pickt (fe_t rfl) (fe_t rfl))) ?_
              refine tb_done (by kernel_rfl) ?_
              refine tx_then ?_
              refine tr_condp (fe_t rfl) (fun hq7 => ?_) (fun hq8 => ?_)
              · try (exfalso; omega)
                all_goals
                  have hxy : (path t a).getD m 0 = (path t b).getD m 0 := by have h2 := hq7; rw [kI_at (by omega), kI_at (by omega)] at h2; omega
                  refine tr_skip ?_
                  refine tx_then ?_
                  refine tr_block ?_
                  refine tr_region ?_
                  refine tl_step rfl (oj_val (y_move (fe_t rfl)) ?_)
                  refine tl_step rfl (oj_val (y_inc (fe_t rfl) fe_c (by omega)) ?_)
                  refine tl_step rfl (oj_val (y_assign (fe_t rfl)) ?_)
                  refine tl_nil ?_
                  refine tx_in ?_
                  apply tx_back1 (m + 1)
                  · exact (cov_cons (by first | rfl | exact v_int (by omega) | exact v_bool (by simp [*])) (cov_nil))
                  · repeat (first | exact over_nil | refine over_put rfl ?_ | refine over_drop rfl ?_)
                  · exact fun w h => h.pick [0, 1] _ rfl (by decide)
                  · exact ⟨⟨by omega, fun i hi => by
                      by_cases e : i = m
                      · subst e; exact hxy
                      · exact hsame i (by omega)⟩, by omega⟩
              · try (exfalso; omega)
                all_goals
                  have hxn := hq8
                  refine tr_exit ?_
                  refine tx_then_exit ?_
                  refine tx_then_exit ?_
                  refine tx_in_exit ?_
                  refine tx_then ?_
                  refine tr_seq ?_
                  have hstop : m = min (path t a).length (path t b).length ∨ (path t a).getD m 0 ≠ (path t b).getD m 0 := .inr (fun e0 => by have h2 := hxn; rw [kI_at (by omega), kI_at (by omega)] at h2; omega)
                  have hm1 : 1 ≤ m := by
                    rcases hstop with h | h
                    · omega
                    · by_cases e : m = 0
                      · subst e; exact absurd (hfa.trans hfb.symm) h
                      · omega
                  have hME : MeetAt (path t a) (path t b) m := ⟨hm1, hm0, hsame, hstop⟩
                  refine tr_region ?_
                  refine tl_step rfl (oj_val (y_move (fe_t rfl)) ?_)
                  refine tl_step rfl (oj_val (y_move (fe_t rfl)) ?_)
                  refine tl_step rfl (oj_val (y_sub (fe_t rfl) fe_c (by omega)) ?_)
                  refine tl_step rfl (oj_val (y_index (j := m - 1) Try.underlying79 Try.sizeOf3 (fe_t rfl) (fe_i (by omega) rfl) (rdl_vec 1 rfl) (by simp [cI, kI_len]; omega) (by decide) (by omega) (Nat.mul_one _)) ?_)
                  refine tl_step rfl (oj_val (y_ld Try.isAgg3 (fe_t rfl) (rdl_vec 1 rfl) (getC (by rw [kI_len]; omega))) ?_)
                  refine tl_step rfl (oj_val (y_assign (fe_t rfl)) ?_)
                  refine tl_step rfl (oj_val (y_assign fe_c) ?_)
                  refine tl_nil ?_
                  refine tx_then ?_
                  refine tr_ret ?_
                  refine tx_ret (res2 Try.results87 (rok_t rfl) (rok_t rfl)) (fun w' hS => ?_)
                  exact ⟨m, hME, by rw [kI_at (by omega)], hS.pick [] _ rfl (by decide)⟩
          · try (exfalso; omega)
            all_goals
              refine tb_skip (i := 8) rfl (by kernel_rfl) rfl (wants_f rfl rfl rfl rfl) ?_
              refine tb_skip (i := 9) rfl (by kernel_rfl) rfl (wants_f rfl rfl rfl rfl) ?_
              refine tb_skip (i := 10) rfl (by kernel_rfl) rfl (wants_f rfl rfl rfl rfl) ?_
              refine tb_skip (i := 11) rfl (by kernel_rfl) rfl (wants_f rfl rfl rfl rfl) ?_
              refine tb_skip (i := 12) rfl (by kernel_rfl) rfl (wants_f rfl rfl rfl rfl) ?_
              refine tb_skip (i := 13) rfl (by kernel_rfl) rfl (wants_f rfl rfl rfl rfl) ?_
              refine tb_skip (i := 14) rfl (by kernel_rfl) rfl (wants_f rfl rfl rfl rfl) ?_
              refine tb_skip (i := 15) rfl (by kernel_rfl) rfl (wants_f rfl rfl rfl rfl) ?_
              refine tb_skip (i := 16) rfl (by kernel_rfl) rfl (wants_f rfl rfl rfl rfl) ?_
              refine tb_float (i := 17) rfl (by kernel_rfl) rfl (wants_none rfl) (yq_of (y_pickf (fe_t rfl) fe_c)) ?_
              refine tb_done (by kernel_rfl) ?_
              refine tx_then ?_
              refine tr_condf (fe_t rfl) ?_
              refine tr_exit ?_
              refine tx_then_exit ?_
              refine tx_then_exit ?_
              refine tx_in_exit ?_
              refine tx_then ?_
              refine tr_seq ?_
              have hstop : m = min (path t a).length (path t b).length ∨ (path t a).getD m 0 ≠ (path t b).getD m 0 := .inl (by omega)
              have hm1 : 1 ≤ m := by
                rcases hstop with h | h
                · omega
                · by_cases e : m = 0
                  · subst e; exact absurd (hfa.trans hfb.symm) h
                  · omega
              have hME : MeetAt (path t a) (path t b) m := ⟨hm1, hm0, hsame, hstop⟩
              refine tr_region ?_
              refine tl_step rfl (oj_val (y_move (fe_t rfl)) ?_)
              refine tl_step rfl (oj_val (y_move (fe_t rfl)) ?_)
              refine tl_step rfl (oj_val (y_sub (fe_t rfl) fe_c (by omega)) ?_)
              refine tl_step rfl (oj_val (y_index (j := m - 1) Try.underlying79 Try.sizeOf3 (fe_t rfl) (fe_i (by omega) rfl) (rdl_vec 1 rfl) (by simp [cI, kI_len]; omega) (by decide) (by omega) (Nat.mul_one _)) ?_)
              refine tl_step rfl (oj_val (y_ld Try.isAgg3 (fe_t rfl) (rdl_vec 1 rfl) (getC (by rw [kI_len]; omega))) ?_)
              refine tl_step rfl (oj_val (y_assign (fe_t rfl)) ?_)
              refine tl_step rfl (oj_val (y_assign fe_c) ?_)
              refine tl_nil ?_
              refine tx_then ?_
              refine tr_ret ?_
              refine tx_ret (res2 Try.results87 (rok_t rfl) (rok_t rfl)) (fun w' hS => ?_)
              exact ⟨m, hME, by rw [kI_at (by omega)], hS.pick [] _ rfl (by decide)⟩

set_option maxRecDepth 100000 in
set_option maxHeartbeats 1000000 in
theorem qpath_step {A : Option Addr} {n c : Nat} {ns : List (Int × Int)} (hn : ns.length = n) (hm : n ≤ 140737488355328) {t : Tr} (ht : t = trOf ns) (g : t.Good) {k : Nat} (hk : k < t.n) (ih : ∀ p, p < k → ∀ w : World, Rd w A (ns.flatMap c2) → Calls Try.prog 89 #[.slice A n c, (.int .i64 ((p : Int)))] w fun e w' => ∃ r : Vs, (r.n = (path t p).length ∧ r.xs = cI (kI (path t p))) ∧ e = .returned (.slice r.A r.n r.c) ∧ St w w' [vec 3 1 (.slice r.A r.n r.c) r.n r.xs]) (w : World) (hr : Rd w A (ns.flatMap c2)) :
    Calls Try.prog 89 #[.slice A n c, (.int .i64 ((k : Int)))] w fun e w' => ∃ r : Vs, (r.n = (path t k).length ∧ r.xs = cI (kI (path t k))) ∧ e = .returned (.slice r.A r.n r.c) ∧ St w w' [vec 3 1 (.slice r.A r.n r.c) r.n r.xs] := by
  have htn : t.n = n := by rw [ht, trOf_n, hn]
  have hn16 := g.n16
  have hn1 := g.n1
  refine calls_tr Try.func89 Try.ntmps89 rfl rfl (St.refl _) ?_
  refine tr_seq ?_
  refine tr_region ?_
  refine tl_step rfl (oj_val (y_assign fe_c) ?_)
  refine tl_nil ?_
  refine tx_then ?_
  refine tr_seq ?_
  refine tr_seq ?_
  refine tr_region ?_
  refine tl_step rfl (oj_val (y_move (fe_t rfl)) ?_)
  refine tl_step rfl (oj_val (y_eq (fe_t rfl) fe_c) ?_)
  refine tl_nil ?_
  refine tx_then ?_
  refine tr_condp (fe_t rfl) (fun hq1 => ?_) (fun hq2 => ?_)
  · try (exfalso; omega)
    all_goals
      refine tr_seq ?_
      refine tr_region ?_
      refine tl_step rfl (oj_slice1V Try.underlying79 Try.sizeOf3 Try.zeroValue3 fe_c rfl (fun q0 => ?_))
      refine tl_step rfl (oj_val (y_assign (fe_t rfl)) ?_)
      refine tl_nil ?_
      refine tx_then ?_
      refine tr_ret ?_
      refine tx_then_ret ?_
      refine tx_ret (res1 Try.results89 (rok_t rfl)) (fun w' hS => ?_)
      exact ⟨⟨_, _, _, _⟩, ⟨by rw [show k = 0 by omega]; rfl, by rw [show k = 0 by omega]; rfl⟩, rfl, hS.pick [0] _ rfl (by decide)⟩
  · try (exfalso; omega)
    all_goals
      refine tr_skip ?_
      refine tx_then ?_
      refine tr_seq ?_
      have huk := g.u k (by omega) hk
      obtain ⟨p, hp⟩ : ∃ p : Nat, t.u k = p := ⟨(t.u k).toNat, by omega⟩
      have hup : n1 ns k = (p : Int) := by rw [← hp, ht, trOf_u]
      have hpl := path_len g p (by omega)
      refine tr_region ?_
      refine tl_step rfl (oj_val (y_move (fe_t rfl)) ?_)
      refine tl_step rfl (oj_val (y_move (fe_t rfl)) ?_)
      refine tl_step rfl (oj_val (y_move (fe_t rfl)) ?_)
      refine tl_step rfl (oj_val (y_index Try.underlying105 Try.sizeOf121 (fe_t rfl) (fe_t rfl) (rdl_out hr) (lenN hn) (by decide) (by omega) rfl) ?_)
      refine tl_step rfl (oj_val (y_fieldAddrE (td := 3) Try.underlying121 rfl rfl Try.sizeOf3 rfl (fe_t rfl) (rdl_out hr) (by rw [lenN hn]; omega)) ?_)
      refine tl_step rfl (oj_val (y_ld Try.isAgg3 (fe_t rfl) (rdl_out hr) (getN1 (by omega))) ?_)
      refine tl_step rfl (oj_call Try.call89 fe_f (fel_cons (fe_t rfl) (fel_cons (fe_i hup rfl) fel_nil)) (fun w' hS => ih p (by omega) w' (Rd.below hr hS.below)) (fun r0 h0 => ?_))
      refine tl_step rfl (oj_val (y_move (fe_t rfl)) ?_)
      refine tl_step rfl (oj_slice1 Try.underlying79 Try.sizeOf3 Try.zeroValue3 (fe_t rfl) (by decide) rfl (fun b1 => ?_))
      refine tl_step rfl (oj_append (i := 1) (s := 1) (z := (.int .i64 0)) (bytes := 8) Try.underlying79 (by kernel_rfl) (fe_t rfl) (fe_t rfl) rfl (rdl_blk 0 rfl) rfl (by decide) (by first | exact oneI | exact oneF (fun _ => rfl) | exact fun u hu => List.all_eq_true.1 (show List.all _ (fun x => x.oneCell') = true from rfl) u hu | (intro u hu; revert u hu; simp [Value.oneCell'])) (by decide) ⟨by omega, by decide⟩ (fun Aa1 ca1 hca1 => ?_))
      refine tl_step rfl (oj_val (y_assign (fe_t rfl)) ?_)
      refine tl_nil ?_
      refine tx_then ?_
      refine tr_ret ?_
      refine tx_ret (res1 Try.results89 (rok_t rfl)) (fun w' hS => ?_)
      refine ⟨⟨_, _, _, _⟩, ⟨?_, ?_⟩, rfl, hS.pick [1] _ rfl (by decide)⟩
      · dsimp only; rw [path_step g hk hp, List.length_append, h0.1]; rfl
      · dsimp only; rw [path_step g hk hp, h0.2]; simp [kI, cI, zc]
theorem qpathE {A : Option Addr} {n c : Nat} {ns : List (Int × Int)} (hn : ns.length = n) (hm : n ≤ 140737488355328) {t : Tr} (ht : t = trOf ns) (g : t.Good) : ∀ k, k < t.n → ∀ w : World, Rd w A (ns.flatMap c2) →
    Calls Try.prog 89 #[.slice A n c, (.int .i64 ((k : Int)))] w fun e w' => ∃ r : Vs, (r.n = (path t k).length ∧ r.xs = cI (kI (path t k))) ∧ e = .returned (.slice r.A r.n r.c) ∧ St w w' [vec 3 1 (.slice r.A r.n r.c) r.n r.xs] := fun k => by
  induction k using Nat.strongRecOn with
  | _ k ih => exact fun hk w hr => qpath_step hn hm ht g hk (fun p hp w hr => ih p hp (by omega) w hr) w hr

end Go.Proofs.Ytcpdelkamckmfaa.Hier
