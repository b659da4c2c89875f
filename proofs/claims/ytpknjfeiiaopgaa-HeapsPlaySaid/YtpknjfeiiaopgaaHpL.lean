/- Walks: the law HeapsPlay. -/
import Derived.Test.YtpknjfeiiaopgaaHpI
namespace Go.Proofs.Ytpknjfeiiaopgaa.Heap
open Go.RowKit Go.Proofs.Ytpknjfeiiaopgaa.E Go.Proofs.Ytpknjfeiiaopgaa.Big

set_option maxRecDepth 100000 in
theorem eqI (A B : Option Addr) (n c d : Nat) (zs : List Int) (w : World) (h1 : Rd w A (zs.map (.int .i64))) (h2 : Rd w B (zs.map (.int .i64))) (hn : zs.length = n) (hm : n ≤ 140737488355328) :
    Calls Try.prog 25 #[.slice A n c, .slice B n d] w fun e w' => e = .returned (.bool true) ∧ St w w' [] := by
  refine calls_tr Try.func25 Try.ntmps25 rfl rfl (St.refl _) ?_
  refine tr_seq ?_
  refine tr_region ?_
  refine tl_step rfl (oj_val (y_assign fe_c) ?_)
  refine tl_nil ?_
  refine tx_then ?_
  refine tr_seq ?_
  refine tr_seq ?_
  refine tr_region ?_
  refine tl_step rfl (oj_val (y_move (fe_t rfl)) ?_)
  refine tl_step rfl (oj_val (y_len Try.underlying27 (fe_t rfl)) ?_)
  refine tl_step rfl (oj_val (y_move (fe_t rfl)) ?_)
  refine tl_step rfl (oj_val (y_len Try.underlying27 (fe_t rfl)) ?_)
  refine tl_step rfl (oj_val (y_neq (fe_t rfl) (fe_t rfl)) ?_)
  refine tl_nil ?_
  refine tx_then ?_
  refine tr_condp (fe_t rfl) (fun hq1 => ?_) (fun hq2 => ?_)
  · exact absurd rfl hq1
  · refine tr_skip ?_
    refine tx_then ?_
    refine tr_seq ?_
    refine tr_seq ?_
    refine tr_region ?_
    refine tl_step rfl (oj_val (y_move (fe_t rfl)) ?_)
    refine tl_step rfl (oj_val (y_len Try.underlying27 (fe_t rfl)) ?_)
    refine tl_step rfl (oj_val (y_move fe_c) ?_)
    refine tl_nil ?_
    refine tx_then ?_
    refine tr_block ?_
    refine tr_loop1 [4, 5, 13, 14, 15, 16, 17, 18, 19, 20, 21, 22, 23, 24, 25] (fun (k : Nat) => [(13, .int .i64 (k : Int))]) 0 (fun (k : Nat) => []) (fun (k : Nat) => k ≤ n) (fun (k : Nat) => n - k) (0) (cov_cons (by first | rfl | exact v_int (by omega) | exact v_bool (by simp [*])) (cov_nil)) (fun w h => h) ?_ ?_
    · try dsimp only
      omega
    intro k hp
    refine tr_seq ?_
    refine tr_region ?_
    refine tl_step rfl (oj_val (y_lss (fe_t rfl) (fe_t rfl)) ?_)
    refine tl_nil ?_
    refine tx_then ?_
    refine tr_seq ?_
    refine tr_condp (fe_t rfl) (fun hq3 => ?_) (fun hq4 => ?_)
    · refine tr_skip ?_
      refine tx_then ?_
      refine tr_seq ?_
      refine tr_block ?_
      refine tr_seq ?_
      refine tr_region ?_
      refine tl_step rfl (oj_val (y_move (fe_t rfl)) ?_)
      refine tl_step rfl (oj_val (y_assign (fe_t rfl)) ?_)
      refine tl_nil ?_
      refine tx_then ?_
      refine tr_seq ?_
      refine tr_draw (sel _ []) (fun w h => h.sel _ rfl (by decide)) rfl ?_
      refine ta_float (i := 0) rfl (by kernel_rfl) (wants_none rfl) (yq_of (y_move (fe_t rfl))) ?_
      refine ta_float (i := 1) rfl (by kernel_rfl) (wants_none rfl) (yq_of (y_move (fe_t rfl))) ?_
      refine ta_float (i := 2) rfl (by kernel_rfl) (wants_none rfl) (yq_of (y_index Try.underlying27 Try.sizeOf3 (fe_t rfl) (fe_t rfl) (rdl_out h1) (by first | (simp; done) | (simp; omega)) (by decide) (by omega) (Nat.mul_one _))) ?_
      refine ta_float (i := 3) rfl (by kernel_rfl) (wants_none rfl) (yq_of (y_ld Try.isAgg3 (fe_t rfl) (rdl_out h1) (getI (by omega)))) ?_
      refine ta_float (i := 4) rfl (by kernel_rfl) (wants_none rfl) (yq_of (y_move (fe_t rfl))) ?_
      refine ta_float (i := 5) rfl (by kernel_rfl) (wants_none rfl) (yq_of (y_move (fe_t rfl))) ?_
      refine ta_float (i := 6) rfl (by kernel_rfl) (wants_none rfl) (yq_of (y_index Try.underlying27 Try.sizeOf3 (fe_t rfl) (fe_t rfl) (rdl_out h2) (by first | (simp; done) | (simp; omega)) (by decide) (by omega) (Nat.mul_one _))) ?_
      refine ta_float (i := 7) rfl (by kernel_rfl) (wants_none rfl) (yq_of (y_ld Try.isAgg3 (fe_t rfl) (rdl_out h2) (getI (by omega)))) ?_
      refine ta_float (i := 8) rfl (by kernel_rfl) (wants_none rfl) (yq_of (y_neq (fe_t rfl) (fe_t rfl))) ?_
      refine ta_done (by kernel_rfl) ?_
      refine tx_then ?_
      refine tr_condp (fe_t rfl) (fun hq5 => ?_) (fun hq6 => ?_)
      · exact absurd rfl hq5
      · refine tr_skip ?_
        refine tx_in ?_
        refine tx_then ?_
        refine tr_region ?_
        refine tl_step rfl (oj_val (y_inc (fe_t rfl) fe_c (by omega)) ?_)
        refine tl_step rfl (oj_val (y_move (fe_t rfl)) ?_)
        refine tl_nil ?_
        apply tx_back1 (k + 1)
        · exact (cov_cons (by first | rfl | exact v_int (by omega) | exact v_bool (by simp [*])) (cov_nil))
        · repeat (first | exact over_nil | refine over_put rfl ?_ | refine over_drop rfl ?_)
        · exact fun w h => h.pick [] _ rfl (by decide)
        · exact ⟨by omega, by omega⟩
    · refine tr_exit ?_
      refine tx_then_exit ?_
      refine tx_then_exit ?_
      refine tx_in_exit ?_
      refine tx_then ?_
      refine tr_seq ?_
      refine tr_region ?_
      refine tl_step rfl (oj_val (y_assign fe_c) ?_)
      refine tl_nil ?_
      refine tx_then ?_
      refine tr_ret ?_
      refine tx_ret (res1 Try.results25 (rok_t rfl)) (fun w' hS => ?_)
      exact ⟨rfl, hS.pick [] _ rfl (by decide)⟩

theorem sameeqI {A B : Option Addr} {n m c d cv cu : Nat} {a b : List Int} {xs ys : List Value} (e : a = b) (h1 : n = a.length ∧ xs = cI a) (h2 : m = b.length ∧ ys = cI b) (w : World) (g1 : OwnV w 3 1 (.slice A n cv) n xs) (g2 : OwnV w 3 1 (.slice B m cu) m ys) (hl : n ≤ 140737488355328) :
    Calls Try.prog 25 #[.slice A n c, .slice B m d] w fun e w' => e = .returned (.bool true) ∧ St w w' [] := by
  subst e
  have r1 := (OwnV.rd g1).2.2
  have r2 := (OwnV.rd g2).2.2
  rw [h1.2] at r1
  rw [h2.2] at r2
  rw [show m = n by omega]
  exact eqI _ _ n _ _ a w r1 r2 h1.1.symm hl

set_option maxRecDepth 100000 in
theorem eqE (A B : Option Addr) (n c d : Nat) (zs : List Int) (w : World) (h1 : Rd w A (zs.map (.int .i64))) (h2 : Rd w B (zs.map (.int .i64))) (hn : zs.length = n) (hm : n ≤ 140737488355328) :
    Calls Try.prog 24 #[.slice A n c, .slice B n d] w fun e w' => e = .returned (.bool true) ∧ St w w' [] := by
  refine calls_tr Try.func24 Try.ntmps24 rfl rfl (St.refl _) ?_
  refine tr_seq ?_
  refine tr_region ?_
  refine tl_step rfl (oj_val (y_assign fe_c) ?_)
  refine tl_nil ?_
  refine tx_then ?_
  refine tr_seq ?_
  refine tr_seq ?_
  refine tr_region ?_
  refine tl_step rfl (oj_val (y_move (fe_t rfl)) ?_)
  refine tl_step rfl (oj_val (y_len Try.underlying47 (fe_t rfl)) ?_)
  refine tl_step rfl (oj_val (y_move (fe_t rfl)) ?_)
  refine tl_step rfl (oj_val (y_len Try.underlying47 (fe_t rfl)) ?_)
  refine tl_step rfl (oj_val (y_neq (fe_t rfl) (fe_t rfl)) ?_)
  refine tl_nil ?_
  refine tx_then ?_
  refine tr_condp (fe_t rfl) (fun hq1 => ?_) (fun hq2 => ?_)
  · exact absurd rfl hq1
  · refine tr_skip ?_
    refine tx_then ?_
    refine tr_seq ?_
    refine tr_seq ?_
    refine tr_region ?_
    refine tl_step rfl (oj_val (y_move (fe_t rfl)) ?_)
    refine tl_step rfl (oj_val (y_len Try.underlying47 (fe_t rfl)) ?_)
    refine tl_step rfl (oj_val (y_move fe_c) ?_)
    refine tl_nil ?_
    refine tx_then ?_
    refine tr_block ?_
    refine tr_loop1 [4, 5, 13, 14, 15, 16, 17, 18, 19, 20, 21, 22, 23, 24, 25] (fun (k : Nat) => [(13, .int .i64 (k : Int))]) 0 (fun (k : Nat) => []) (fun (k : Nat) => k ≤ n) (fun (k : Nat) => n - k) (0) (cov_cons (by first | rfl | exact v_int (by omega) | exact v_bool (by simp [*])) (cov_nil)) (fun w h => h) ?_ ?_
    · try dsimp only
      omega
    intro k hp
    refine tr_seq ?_
    refine tr_region ?_
    refine tl_step rfl (oj_val (y_lss (fe_t rfl) (fe_t rfl)) ?_)
    refine tl_nil ?_
    refine tx_then ?_
    refine tr_seq ?_
    refine tr_condp (fe_t rfl) (fun hq3 => ?_) (fun hq4 => ?_)
    · refine tr_skip ?_
      refine tx_then ?_
      refine tr_seq ?_
      refine tr_block ?_
      refine tr_seq ?_
      refine tr_region ?_
      refine tl_step rfl (oj_val (y_move (fe_t rfl)) ?_)
      refine tl_step rfl (oj_val (y_assign (fe_t rfl)) ?_)
      refine tl_nil ?_
      refine tx_then ?_
      refine tr_seq ?_
      refine tr_draw (sel _ []) (fun w h => h.sel _ rfl (by decide)) rfl ?_
      refine ta_float (i := 0) rfl (by kernel_rfl) (wants_none rfl) (yq_of (y_move (fe_t rfl))) ?_
      refine ta_float (i := 1) rfl (by kernel_rfl) (wants_none rfl) (yq_of (y_move (fe_t rfl))) ?_
      refine ta_float (i := 2) rfl (by kernel_rfl) (wants_none rfl) (yq_of (y_index Try.underlying47 Try.sizeOf29 (fe_t rfl) (fe_t rfl) (rdl_out h1) (by first | (simp; done) | (simp; omega)) (by decide) (by omega) (Nat.mul_one _))) ?_
      refine ta_float (i := 3) rfl (by kernel_rfl) (wants_none rfl) (yq_of (y_ld Try.isAgg29 (fe_t rfl) (rdl_out h1) (getI (by omega)))) ?_
      refine ta_float (i := 4) rfl (by kernel_rfl) (wants_none rfl) (yq_of (y_move (fe_t rfl))) ?_
      refine ta_float (i := 5) rfl (by kernel_rfl) (wants_none rfl) (yq_of (y_move (fe_t rfl))) ?_
      refine ta_float (i := 6) rfl (by kernel_rfl) (wants_none rfl) (yq_of (y_index Try.underlying47 Try.sizeOf29 (fe_t rfl) (fe_t rfl) (rdl_out h2) (by first | (simp; done) | (simp; omega)) (by decide) (by omega) (Nat.mul_one _))) ?_
      refine ta_float (i := 7) rfl (by kernel_rfl) (wants_none rfl) (yq_of (y_ld Try.isAgg29 (fe_t rfl) (rdl_out h2) (getI (by omega)))) ?_
      refine ta_float (i := 8) rfl (by kernel_rfl) (wants_none rfl) (yq_of (y_neq (fe_t rfl) (fe_t rfl))) ?_
      refine ta_done (by kernel_rfl) ?_
      refine tx_then ?_
      refine tr_condp (fe_t rfl) (fun hq5 => ?_) (fun hq6 => ?_)
      · exact absurd rfl hq5
      · refine tr_skip ?_
        refine tx_in ?_
        refine tx_then ?_
        refine tr_region ?_
        refine tl_step rfl (oj_val (y_inc (fe_t rfl) fe_c (by omega)) ?_)
        refine tl_step rfl (oj_val (y_move (fe_t rfl)) ?_)
        refine tl_nil ?_
        apply tx_back1 (k + 1)
        · exact (cov_cons (by first | rfl | exact v_int (by omega) | exact v_bool (by simp [*])) (cov_nil))
        · repeat (first | exact over_nil | refine over_put rfl ?_ | refine over_drop rfl ?_)
        · exact fun w h => h.pick [] _ rfl (by decide)
        · exact ⟨by omega, by omega⟩
    · refine tr_exit ?_
      refine tx_then_exit ?_
      refine tx_then_exit ?_
      refine tx_in_exit ?_
      refine tx_then ?_
      refine tr_seq ?_
      refine tr_region ?_
      refine tl_step rfl (oj_val (y_assign fe_c) ?_)
      refine tl_nil ?_
      refine tx_then ?_
      refine tr_ret ?_
      refine tx_ret (res1 Try.results24 (rok_t rfl)) (fun w' hS => ?_)
      exact ⟨rfl, hS.pick [] _ rfl (by decide)⟩

theorem sameeqE {A B : Option Addr} {n m c d cv cu : Nat} {a b : List Int} {xs ys : List Value} (e : a = b) (h1 : n = a.length ∧ xs = cI a) (h2 : m = b.length ∧ ys = cI b) (w : World) (g1 : OwnV w 29 1 (.slice A n cv) n xs) (g2 : OwnV w 29 1 (.slice B m cu) m ys) (hl : n ≤ 140737488355328) :
    Calls Try.prog 24 #[.slice A n c, .slice B m d] w fun e w' => e = .returned (.bool true) ∧ St w w' [] := by
  subst e
  have r1 := (OwnV.rd g1).2.2
  have r2 := (OwnV.rd g2).2.2
  rw [h1.2] at r1
  rw [h2.2] at r2
  rw [show m = n by omega]
  exact eqE _ _ n _ _ a w r1 r2 h1.1.symm hl

set_option maxRecDepth 100000 in
set_option maxHeartbeats 4000000 in
theorem law_ok (A : Option Addr) (n c : Nat) (os : List Op4) (w : World) (hr : Rd w A (os.flatMap c4)) (hn : os.length = n) (hm : n ≤ 4398046511103) :
    Calls Try.prog 5 #[.slice A n c] w fun e w' => e = .returned (.bool true) ∧ St w w' [] := by
  refine calls_tr Try.func5 Try.ntmps5 rfl rfl (St.refl _) ?_
  refine tr_seq ?_
  refine tr_region ?_
  refine tl_step rfl (oj_val (y_assign fe_c) ?_)
  refine tl_nil ?_
  refine tx_then ?_
  refine tr_seq ?_
  refine tr_region ?_
  refine tl_step rfl (oj_val (y_move (fe_t rfl)) ?_)
  refine tl_step rfl (oj_call Try.call22 fe_f (fel_cons (fe_t rfl) fel_nil) (fun w' hS => playE A n c os w' (Rd.below hr hS.below) hn hm) (fun r1 h1 => ?_))
  refine tl_step rfl (oj_val (y_move (fe_t rfl)) ?_)
  refine tl_step rfl (oj_val (y_extract (fe_t rfl) rfl) ?_)
  refine tl_step rfl (oj_val (y_extract (fe_t rfl) rfl) ?_)
  refine tl_step rfl (oj_val (y_extract (fe_t rfl) rfl) ?_)
  refine tl_step rfl (oj_val (y_assign (fe_t rfl)) ?_)
  refine tl_step rfl (oj_val (y_assign (fe_t rfl)) ?_)
  refine tl_step rfl (oj_val (y_assign (fe_t rfl)) ?_)
  refine tl_nil ?_
  refine tx_then ?_
  refine tr_seq ?_
  refine tr_region ?_
  refine tl_step rfl (oj_val (y_move (fe_t rfl)) ?_)
  refine tl_step rfl (oj_call Try.call23 fe_f (fel_cons (fe_t rfl) fel_nil) (fun w' hS => cplayE A n c os w' (Rd.below hr hS.below) hn hm) (fun r2 h2 => ?_))
  refine tl_step rfl (oj_val (y_move (fe_t rfl)) ?_)
  refine tl_step rfl (oj_val (y_extract (fe_t rfl) rfl) ?_)
  refine tl_step rfl (oj_val (y_extract (fe_t rfl) rfl) ?_)
  refine tl_step rfl (oj_val (y_extract (fe_t rfl) rfl) ?_)
  refine tl_step rfl (oj_val (y_assign (fe_t rfl)) ?_)
  refine tl_step rfl (oj_val (y_assign (fe_t rfl)) ?_)
  refine tl_step rfl (oj_val (y_assign (fe_t rfl)) ?_)
  refine tl_nil ?_
  refine tx_then ?_
  refine tr_seq ?_
  refine tr_region ?_
  refine tl_step rfl (oj_val (y_move (fe_t rfl)) ?_)
  refine tl_step rfl (oj_val (y_move (fe_t rfl)) ?_)
  refine tl_step rfl (oj_callv Try.call24 fe_f (fel_cons (fe_t rfl) (fel_cons (fe_t rfl) fel_nil)) (fun w' hS => sameeqE (a := (run os).errs) rfl ⟨h1.en.1.trans h1.en.2.symm, h1.ex⟩ ⟨h2.en.1.trans h2.en.2.symm, h2.ex⟩ w' (hS.holds 3 _ rfl) (hS.holds 0 _ rfl) (by have := h1.en.1; omega)) ?_)
  refine tl_step rfl (oj_val (y_move (fe_t rfl)) ?_)
  refine tl_want rfl rfl rfl (oj_val (y_move (fe_t rfl)) ?_)
  refine tl_want rfl rfl rfl (oj_val (y_move (fe_t rfl)) ?_)
  refine tl_want rfl rfl rfl (oj_callv Try.call25 fe_f (fel_cons (fe_t rfl) (fel_cons (fe_t rfl) fel_nil)) (fun w' hS => sameeqI rfl ⟨h1.pn.1, h1.px⟩ ⟨h2.pn.1, h2.px⟩ w' (hS.holds 4 _ rfl) (hS.holds 1 _ rfl) (by have := h1.pn.2; omega)) ?_)
  refine tl_step rfl (oj_val (y_pickt (fe_t rfl) (fe_t rfl)) ?_)
  refine tl_step rfl (oj_val (y_move (fe_t rfl)) ?_)
  refine tl_want rfl rfl rfl (oj_val (y_move (fe_t rfl)) ?_)
  refine tl_want rfl rfl rfl (oj_val (y_move (fe_t rfl)) ?_)
  refine tl_want rfl rfl rfl (oj_callv Try.call25 fe_f (fel_cons (fe_t rfl) (fel_cons (fe_t rfl) fel_nil)) (fun w' hS => sameeqI (h1.dr.uniq h2.dr) ⟨h1.dn.1, h1.dx⟩ ⟨h2.dn.1, h2.dx⟩ w' (hS.holds 5 _ rfl) (hS.holds 2 _ rfl) (by have := h1.dn.2; omega)) ?_)
  refine tl_step rfl (oj_val (y_pickt (fe_t rfl) (fe_t rfl)) ?_)
  refine tl_step rfl (oj_val (y_assign (fe_t rfl)) ?_)
  refine tl_nil ?_
  refine tx_then ?_
  refine tr_ret ?_
  refine tx_ret (res1 Try.results5 (rok_t rfl)) (fun w' hS => ?_)
  exact ⟨ret_bool (by first | rfl | (simp; done)), hS.pick [] _ rfl (by decide)⟩

end Go.Proofs.Ytpknjfeiiaopgaa.Heap
