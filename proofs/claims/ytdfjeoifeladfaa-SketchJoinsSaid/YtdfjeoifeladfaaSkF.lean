/- Walk: the law SketchJoins. -/
import Derived.Test.YtdfjeoifeladfaaSkE9
import Derived.Test.YtdfjeoifeladfaaEqE
namespace Go.Proofs.Ytdfjeoifeladfaa.SketchJoins
open Go.RowKit Go.Proofs.Ytdfjeoifeladfaa.E Go.Proofs.Ytdfjeoifeladfaa.Sketch

set_option maxRecDepth 100000 in
set_option maxHeartbeats 4000000 in
theorem walk_bad_bad (rows width r1 x1 r2 x2 : Int) (A B : Option Addr) (n m c d : Nat) (za zb : List Int) (w : World) (hr : Rd w A (za.map (.int .i64))) (hr' : Rd w B (zb.map (.int .i64))) (hn : za.length = n) (hm : zb.length = m) (ln : n ≤ 140737488355328) (lm : m ≤ 140737488355328) (hd : dims rows width = false) (hbad : vright r1 x1 za = false ∨ (vright r1 x1 za = true ∧ vright r2 x2 zb = false) ∨ (vright r1 x1 za = true ∧ vright r2 x2 zb = true ∧ r1 ≠ r2) ∨ (vright r1 x1 za = true ∧ vright r2 x2 zb = true ∧ r1 = r2 ∧ x1 ≠ x2)) :
    Calls Try.prog 4 #[(.int .i64 rows), (.int .i64 width), .agg #[(.int .i64 r1), (.int .i64 x1), .slice A n c], .agg #[(.int .i64 r2), (.int .i64 x2), .slice B m d]] w fun e w' => e = .returned (.bool true) ∧ E.St w w' [] := by
  have hd' := dims_not hd
  rcases hbad with va | ⟨va, vb⟩ | ⟨va, vb, hne⟩ | ⟨va, vb, heq, hne⟩
  all_goals
    refine calls_tr Try.func4 Try.ntmps4 rfl rfl (St.refl _) ?_
    refine tr_seq ?_
    refine tr_region ?_
    refine tl_step rfl (oj_box (fe_t rfl) (fun b1 => ?_))
    refine tl_step rfl (oj_box (fe_t rfl) (fun b2 => ?_))
    refine tl_step rfl (oj_val (y_assign fe_c) ?_)
    refine tl_nil ?_
    refine tx_then ?_
    refine tr_seq ?_
    refine tr_region ?_
    refine tl_step rfl (oj_val (y_move (fe_t rfl)) ?_)
    refine tl_step rfl (oj_val (y_move (fe_t rfl)) ?_)
    refine tl_step rfl (oj_callv Try.call19 fe_f (fel_cons (fe_t rfl) (fel_cons (fe_t rfl) fel_nil)) (fun w' hS => snew_bad rows width w' hd) ?_)
    refine tl_step rfl (oj_val (y_move (fe_t rfl)) ?_)
    refine tl_step rfl (oj_val (y_extract (fe_t rfl) rfl) ?_)
    refine tl_step rfl (oj_val (y_extract (fe_t rfl) rfl) ?_)
    refine tl_step rfl (oj_alloc Try.zeroValue33 (fun b3 => ?_))
    refine tl_step rfl (oj_storeW 0 Try.sizeOf33 (fe_t rfl) (fe_t rfl) rfl rfl rfl rfl rfl (?_))
    refine tl_step rfl (oj_val (y_assign (fe_t rfl)) ?_)
    refine tl_nil ?_
    refine tx_then ?_
    refine tr_seq ?_
    refine tr_region ?_
    refine tl_step rfl (oj_val (y_ldbA 2 Try.isAgg33 Try.sizeOf33 (fe_t rfl) rfl rfl rfl) ?_)
    refine tl_step rfl (oj_val (y_ldbA 1 Try.isAgg33 Try.sizeOf33 (fe_t rfl) rfl rfl rfl) ?_)
    refine tl_step rfl (oj_callv Try.call20 fe_f (fel_cons (fe_t rfl) (fel_cons (fe_t rfl) fel_nil)) (fun w' hS => sjoin_bad r1 x1 r2 x2 A B n m c d za zb w' (Rd.below hr hS.below) (Rd.below hr' hS.below) hn hm ln lm (by first | exact .inl va | exact .inr (.inl ⟨va, vb⟩) | exact .inr (.inr (.inl ⟨va, vb, hne⟩)) | exact .inr (.inr (.inr ⟨va, vb, heq, hne⟩)))) ?_)
    refine tl_step rfl (oj_val (y_move (fe_t rfl)) ?_)
    refine tl_step rfl (oj_val (y_extract (fe_t rfl) rfl) ?_)
    refine tl_step rfl (oj_val (y_extract (fe_t rfl) rfl) ?_)
    refine tl_step rfl (oj_alloc Try.zeroValue33 (fun b4 => ?_))
    refine tl_step rfl (oj_storeW 0 Try.sizeOf33 (fe_t rfl) (fe_t rfl) rfl rfl rfl rfl rfl (?_))
    refine tl_step rfl (oj_val (y_assign (fe_t rfl)) ?_)
    refine tl_nil ?_
    refine tx_then ?_
    refine tr_seq ?_
    refine tr_seq ?_
    refine tr_region ?_
    refine tl_step rfl (oj_val (y_move (fe_t rfl)) ?_)
    refine tl_step rfl (oj_val (y_lss (fe_t rfl) fe_c) ?_)
    refine tl_step rfl (oj_val (y_move (fe_t rfl)) ?_)
    refine tl_splitp (d := 30) rfl (fun hq1 => ?_) (fun hq2 => ?_)
    · try (first | (exfalso; omega) | (exfalso; simp_all; done))
      all_goals
        refine tl_skip rfl rfl rfl rfl ?_
        refine tl_skip rfl rfl rfl rfl ?_
        refine tl_step rfl (oj_val (y_pickt (fe_t rfl) fe_c) ?_)
        refine tl_step rfl (oj_val (y_move (fe_t rfl)) ?_)
        refine tl_skip rfl rfl rfl rfl ?_
        refine tl_skip rfl rfl rfl rfl ?_
        refine tl_step rfl (oj_val (y_pickt (fe_t rfl) fe_c) ?_)
        refine tl_step rfl (oj_val (y_move (fe_t rfl)) ?_)
        refine tl_skip rfl rfl rfl rfl ?_
        refine tl_skip rfl rfl rfl rfl ?_
        refine tl_step rfl (oj_val (y_pickt (fe_t rfl) fe_c) ?_)
        refine tl_nil ?_
        refine tx_then ?_
        refine tr_condt (fe_t rfl) ?_
        refine tr_seq ?_
        refine tr_region ?_
        refine tl_step rfl (oj_val (y_move (fe_t rfl)) ?_)
        refine tl_step rfl (oj_val (y_neq (fe_t rfl) fe_c) ?_)
        refine tl_step rfl (oj_val (y_move (fe_t rfl)) ?_)
        refine tl_splitp (d := 44) rfl (fun hq3 => ?_) (fun hq4 => ?_)
        · try (first | (exfalso; omega) | (exfalso; simp_all; done))
          all_goals
            refine tl_skip rfl rfl rfl rfl ?_
            refine tl_skip rfl rfl rfl rfl ?_
            refine tl_skip rfl rfl rfl rfl ?_
            refine tl_skip rfl rfl rfl rfl ?_
            refine tl_step rfl (oj_val (y_pickt (fe_t rfl) fe_c) ?_)
            refine tl_nil ?_
            refine tx_then ?_
            exfalso; omega
        · try (first | (exfalso; omega) | (exfalso; simp_all; done))
          all_goals
            refine tl_want rfl rfl rfl (oj_val (y_ldbA 1 Try.isAgg33 Try.sizeOf33 (fe_t rfl) rfl rfl rfl) ?_)
            refine tl_want rfl rfl rfl (oj_val (y_build (is := []) (vs := []) (cs := [.int .i64 0, .int .i64 0, .slice none 0 0]) rfl fel_nil (by kernel_rfl)) ?_)
            refine tl_want rfl rfl rfl (oj_callv Try.call21 fe_f (fel_cons (fe_t rfl) (fel_cons (fe_t rfl) fel_nil)) (fun w' hS => of_bel (same_any 0 0 none none 0 0 0 [] w' Rd.nil Rd.nil rfl (by omega))) ?_)
            refine tl_want rfl rfl rfl (oj_val (y_not (fe_t rfl)) ?_)
            refine tl_step rfl (oj_val (y_pickf (fe_t rfl) (fe_t rfl)) ?_)
            refine tl_nil ?_
            refine tx_then ?_
            refine tr_condf (fe_t rfl) ?_
            refine tr_skip ?_
            refine tx_then ?_
            refine tr_seq ?_
            refine tr_seq ?_
            refine tr_region ?_
            refine tl_step rfl (oj_val (y_ldbA 3 Try.isAgg33 Try.sizeOf33 (fe_t rfl) rfl rfl rfl) ?_)
            refine tl_step rfl (oj_callv Try.call22 fe_f (fel_cons (fe_t rfl) fel_nil) (fun w' hS => of_bel (vright_any _ _ A n c za w' (Rd.below hr hS.below) hn (by omega))) ?_)
            refine tl_step rfl (oj_val (y_not (fe_t rfl)) ?_)
            refine tl_step rfl (oj_val (y_move (fe_t rfl)) ?_)
            refine tl_split (d := 67) rfl (fun hq5 => ?_) (fun hq6 => ?_)
            · try (first | (exfalso; omega) | (exfalso; simp_all; done))
              all_goals
                refine tl_skip rfl rfl rfl rfl ?_
                refine tl_skip rfl rfl rfl rfl ?_
                refine tl_skip rfl rfl rfl rfl ?_
                refine tl_step rfl (oj_val (y_pickt (fe_t rfl) fe_c) ?_)
                refine tl_step rfl (oj_val (y_move (fe_t rfl)) ?_)
                refine tl_skip rfl rfl rfl rfl ?_
                refine tl_skip rfl rfl rfl rfl ?_
                refine tl_skip rfl rfl rfl rfl ?_
                refine tl_skip rfl rfl rfl rfl ?_
                refine tl_skip rfl rfl rfl rfl ?_
                refine tl_step rfl (oj_val (y_pickt (fe_t rfl) fe_c) ?_)
                refine tl_step rfl (oj_val (y_move (fe_t rfl)) ?_)
                refine tl_skip rfl rfl rfl rfl ?_
                refine tl_skip rfl rfl rfl rfl ?_
                refine tl_skip rfl rfl rfl rfl ?_
                refine tl_skip rfl rfl rfl rfl ?_
                refine tl_skip rfl rfl rfl rfl ?_
                refine tl_step rfl (oj_val (y_pickt (fe_t rfl) fe_c) ?_)
                refine tl_nil ?_
                refine tx_then ?_
                refine tr_condt (fe_t rfl) ?_
                refine tr_seq ?_
                refine tr_region ?_
                refine tl_step rfl (oj_val (y_move (fe_t rfl)) ?_)
                refine tl_step rfl (oj_val (y_eq (fe_t rfl) fe_c) ?_)
                refine tl_step rfl (oj_val (y_move (fe_t rfl)) ?_)
                refine tl_splitp (d := 88) rfl (fun hq7 => ?_) (fun hq8 => ?_)
                · try (first | (exfalso; omega) | (exfalso; simp_all; done))
                  all_goals
                    refine tl_want rfl rfl rfl (oj_val (y_ldbA 0 Try.isAgg33 Try.sizeOf33 (fe_t rfl) rfl rfl rfl) ?_)
                    refine tl_want rfl rfl rfl (oj_val (y_build (is := []) (vs := []) (cs := [.int .i64 0, .int .i64 0, .slice none 0 0]) rfl fel_nil (by kernel_rfl)) ?_)
                    refine tl_want rfl rfl rfl (oj_callv Try.call21 fe_f (fel_cons (fe_t rfl) (fel_cons (fe_t rfl) fel_nil)) (fun w' hS => of_bel (same_any 0 0 none none 0 0 0 [] w' Rd.nil Rd.nil rfl (by omega))) ?_)
                    refine tl_step rfl (oj_val (y_pickt (fe_t rfl) (fe_t rfl)) ?_)
                    refine tl_step rfl (oj_val (y_assign (fe_t rfl)) ?_)
                    refine tl_nil ?_
                    refine tx_then ?_
                    refine tr_ret ?_
                    refine tx_then_ret ?_
                    refine tx_ret (res1 Try.results4 (rok_t rfl)) (fun w' hS => ?_)
                    exact ⟨ret_bool (by first | rfl | (simp; done)), hS.pick [] _ rfl (by decide)⟩
                · try (first | (exfalso; omega) | (exfalso; simp_all; done))
                  all_goals
                    refine tl_skip rfl rfl rfl rfl ?_
                    refine tl_skip rfl rfl rfl rfl ?_
                    refine tl_skip rfl rfl rfl rfl ?_
                    refine tl_step rfl (oj_val (y_pickf (fe_t rfl) fe_c) ?_)
                    refine tl_step rfl (oj_val (y_assign (fe_t rfl)) ?_)
                    refine tl_nil ?_
                    refine tx_then ?_
                    refine tr_ret ?_
                    refine tx_then_ret ?_
                    refine tx_ret (res1 Try.results4 (rok_t rfl)) (fun w' hS => ?_)
                    exact ⟨ret_bool (by first | rfl | (simp; done)), hS.pick [] _ rfl (by decide)⟩
            · try (first | (exfalso; omega) | (exfalso; simp_all; done))
              all_goals
                refine tl_want rfl rfl rfl (oj_val (y_ldbA 2 Try.isAgg33 Try.sizeOf33 (fe_t rfl) rfl rfl rfl) ?_)
                refine tl_want rfl rfl rfl (oj_callv Try.call22 fe_f (fel_cons (fe_t rfl) fel_nil) (fun w' hS => of_bel (vright_any _ _ B m d zb w' (Rd.below hr' hS.below) hm (by omega))) ?_)
                refine tl_want rfl rfl rfl (oj_val (y_not (fe_t rfl)) ?_)
                refine tl_step rfl (oj_val (y_pickf (fe_t rfl) (fe_t rfl)) ?_)
                refine tl_step rfl (oj_val (y_move (fe_t rfl)) ?_)
                refine tl_split (d := 72) rfl (fun hq9 => ?_) (fun hq10 => ?_)
                · try (first | (exfalso; omega) | (exfalso; simp_all; done))
                  all_goals
                    refine tl_skip rfl rfl rfl rfl ?_
                    refine tl_skip rfl rfl rfl rfl ?_
                    refine tl_skip rfl rfl rfl rfl ?_
                    refine tl_skip rfl rfl rfl rfl ?_
                    refine tl_skip rfl rfl rfl rfl ?_
                    refine tl_step rfl (oj_val (y_pickt (fe_t rfl) fe_c) ?_)
                    refine tl_step rfl (oj_val (y_move (fe_t rfl)) ?_)
                    refine tl_skip rfl rfl rfl rfl ?_
                    refine tl_skip rfl rfl rfl rfl ?_
                    refine tl_skip rfl rfl rfl rfl ?_
                    refine tl_skip rfl rfl rfl rfl ?_
                    refine tl_skip rfl rfl rfl rfl ?_
                    refine tl_step rfl (oj_val (y_pickt (fe_t rfl) fe_c) ?_)
                    refine tl_nil ?_
                    refine tx_then ?_
                    refine tr_condt (fe_t rfl) ?_
                    refine tr_seq ?_
                    refine tr_region ?_
                    refine tl_step rfl (oj_val (y_move (fe_t rfl)) ?_)
                    refine tl_step rfl (oj_val (y_eq (fe_t rfl) fe_c) ?_)
                    refine tl_step rfl (oj_val (y_move (fe_t rfl)) ?_)
                    refine tl_splitp (d := 88) rfl (fun hq11 => ?_) (fun hq12 => ?_)
                    · try (first | (exfalso; omega) | (exfalso; simp_all; done))
                      all_goals
                        refine tl_want rfl rfl rfl (oj_val (y_ldbA 0 Try.isAgg33 Try.sizeOf33 (fe_t rfl) rfl rfl rfl) ?_)
                        refine tl_want rfl rfl rfl (oj_val (y_build (is := []) (vs := []) (cs := [.int .i64 0, .int .i64 0, .slice none 0 0]) rfl fel_nil (by kernel_rfl)) ?_)
                        refine tl_want rfl rfl rfl (oj_callv Try.call21 fe_f (fel_cons (fe_t rfl) (fel_cons (fe_t rfl) fel_nil)) (fun w' hS => of_bel (same_any 0 0 none none 0 0 0 [] w' Rd.nil Rd.nil rfl (by omega))) ?_)
                        refine tl_step rfl (oj_val (y_pickt (fe_t rfl) (fe_t rfl)) ?_)
                        refine tl_step rfl (oj_val (y_assign (fe_t rfl)) ?_)
                        refine tl_nil ?_
                        refine tx_then ?_
                        refine tr_ret ?_
                        refine tx_then_ret ?_
                        refine tx_ret (res1 Try.results4 (rok_t rfl)) (fun w' hS => ?_)
                        exact ⟨ret_bool (by first | rfl | (simp; done)), hS.pick [] _ rfl (by decide)⟩
                    · try (first | (exfalso; omega) | (exfalso; simp_all; done))
                      all_goals
                        refine tl_skip rfl rfl rfl rfl ?_
                        refine tl_skip rfl rfl rfl rfl ?_
                        refine tl_skip rfl rfl rfl rfl ?_
                        refine tl_step rfl (oj_val (y_pickf (fe_t rfl) fe_c) ?_)
                        refine tl_step rfl (oj_val (y_assign (fe_t rfl)) ?_)
                        refine tl_nil ?_
                        refine tx_then ?_
                        refine tr_ret ?_
                        refine tx_then_ret ?_
                        refine tx_ret (res1 Try.results4 (rok_t rfl)) (fun w' hS => ?_)
                        exact ⟨ret_bool (by first | rfl | (simp; done)), hS.pick [] _ rfl (by decide)⟩
                · try (first | (exfalso; omega) | (exfalso; simp_all; done))
                  all_goals
                    refine tl_want rfl rfl rfl (oj_val (y_fieldAddr (td := 3) Try.underlying33 rfl rfl Try.sizeOf3 (o' := 0) rfl (fe_t rfl)) ?_)
                    refine tl_want rfl rfl rfl (oj_val (y_ldb 3 Try.isAgg3 (fe_t rfl) rfl rfl) ?_)
                    refine tl_want rfl rfl rfl (oj_val (y_fieldAddr (td := 3) Try.underlying33 rfl rfl Try.sizeOf3 (o' := 0) rfl (fe_t rfl)) ?_)
                    refine tl_want rfl rfl rfl (oj_val (y_ldb 2 Try.isAgg3 (fe_t rfl) rfl rfl) ?_)
                    refine tl_want rfl rfl rfl (oj_val (y_neq (fe_t rfl) (fe_t rfl)) ?_)
                    refine tl_step rfl (oj_val (y_pickf (fe_t rfl) (fe_t rfl)) ?_)
                    refine tl_step rfl (oj_val (y_move (fe_t rfl)) ?_)
                    refine tl_splitp (d := 79) rfl (fun hq13 => ?_) (fun hq14 => ?_)
                    · try (first | (exfalso; omega) | (exfalso; simp_all; done))
                      all_goals
                        refine tl_skip rfl rfl rfl rfl ?_
                        refine tl_skip rfl rfl rfl rfl ?_
                        refine tl_skip rfl rfl rfl rfl ?_
                        refine tl_skip rfl rfl rfl rfl ?_
                        refine tl_skip rfl rfl rfl rfl ?_
                        refine tl_step rfl (oj_val (y_pickt (fe_t rfl) fe_c) ?_)
                        refine tl_nil ?_
                        refine tx_then ?_
                        refine tr_condt (fe_t rfl) ?_
                        refine tr_seq ?_
                        refine tr_region ?_
                        refine tl_step rfl (oj_val (y_move (fe_t rfl)) ?_)
                        refine tl_step rfl (oj_val (y_eq (fe_t rfl) fe_c) ?_)
                        refine tl_step rfl (oj_val (y_move (fe_t rfl)) ?_)
                        refine tl_splitp (d := 88) rfl (fun hq15 => ?_) (fun hq16 => ?_)
                        · try (first | (exfalso; omega) | (exfalso; simp_all; done))
                          all_goals
                            refine tl_want rfl rfl rfl (oj_val (y_ldbA 0 Try.isAgg33 Try.sizeOf33 (fe_t rfl) rfl rfl rfl) ?_)
                            refine tl_want rfl rfl rfl (oj_val (y_build (is := []) (vs := []) (cs := [.int .i64 0, .int .i64 0, .slice none 0 0]) rfl fel_nil (by kernel_rfl)) ?_)
                            refine tl_want rfl rfl rfl (oj_callv Try.call21 fe_f (fel_cons (fe_t rfl) (fel_cons (fe_t rfl) fel_nil)) (fun w' hS => of_bel (same_any 0 0 none none 0 0 0 [] w' Rd.nil Rd.nil rfl (by omega))) ?_)
                            refine tl_step rfl (oj_val (y_pickt (fe_t rfl) (fe_t rfl)) ?_)
                            refine tl_step rfl (oj_val (y_assign (fe_t rfl)) ?_)
                            refine tl_nil ?_
                            refine tx_then ?_
                            refine tr_ret ?_
                            refine tx_then_ret ?_
                            refine tx_ret (res1 Try.results4 (rok_t rfl)) (fun w' hS => ?_)
                            exact ⟨ret_bool (by first | rfl | (simp; done)), hS.pick [] _ rfl (by decide)⟩
                        · try (first | (exfalso; omega) | (exfalso; simp_all; done))
                          all_goals
                            refine tl_skip rfl rfl rfl rfl ?_
                            refine tl_skip rfl rfl rfl rfl ?_
                            refine tl_skip rfl rfl rfl rfl ?_
                            refine tl_step rfl (oj_val (y_pickf (fe_t rfl) fe_c) ?_)
                            refine tl_step rfl (oj_val (y_assign (fe_t rfl)) ?_)
                            refine tl_nil ?_
                            refine tx_then ?_
                            refine tr_ret ?_
                            refine tx_then_ret ?_
                            refine tx_ret (res1 Try.results4 (rok_t rfl)) (fun w' hS => ?_)
                            exact ⟨ret_bool (by first | rfl | (simp; done)), hS.pick [] _ rfl (by decide)⟩
                    · try (first | (exfalso; omega) | (exfalso; simp_all; done))
                      all_goals
                        refine tl_want rfl rfl rfl (oj_val (y_fieldAddr (td := 3) Try.underlying33 rfl rfl Try.sizeOf3 (o' := 1) rfl (fe_t rfl)) ?_)
                        refine tl_want rfl rfl rfl (oj_val (y_ldb 3 Try.isAgg3 (fe_t rfl) rfl rfl) ?_)
                        refine tl_want rfl rfl rfl (oj_val (y_fieldAddr (td := 3) Try.underlying33 rfl rfl Try.sizeOf3 (o' := 1) rfl (fe_t rfl)) ?_)
                        refine tl_want rfl rfl rfl (oj_val (y_ldb 2 Try.isAgg3 (fe_t rfl) rfl rfl) ?_)
                        refine tl_want rfl rfl rfl (oj_val (y_neq (fe_t rfl) (fe_t rfl)) ?_)
                        refine tl_step rfl (oj_val (y_pickf (fe_t rfl) (fe_t rfl)) ?_)
                        refine tl_nil ?_
                        refine tx_then ?_
                        refine tr_condp (fe_t rfl) (fun hq17 => ?_) (fun hq18 => ?_)
                        · try (first | (exfalso; omega) | (exfalso; simp_all; done))
                          all_goals
                            refine tr_seq ?_
                            refine tr_region ?_
                            refine tl_step rfl (oj_val (y_move (fe_t rfl)) ?_)
                            refine tl_step rfl (oj_val (y_eq (fe_t rfl) fe_c) ?_)
                            refine tl_step rfl (oj_val (y_move (fe_t rfl)) ?_)
                            refine tl_splitp (d := 88) rfl (fun hq19 => ?_) (fun hq20 => ?_)
                            · try (first | (exfalso; omega) | (exfalso; simp_all; done))
                              all_goals
                                refine tl_want rfl rfl rfl (oj_val (y_ldbA 0 Try.isAgg33 Try.sizeOf33 (fe_t rfl) rfl rfl rfl) ?_)
                                refine tl_want rfl rfl rfl (oj_val (y_build (is := []) (vs := []) (cs := [.int .i64 0, .int .i64 0, .slice none 0 0]) rfl fel_nil (by kernel_rfl)) ?_)
                                refine tl_want rfl rfl rfl (oj_callv Try.call21 fe_f (fel_cons (fe_t rfl) (fel_cons (fe_t rfl) fel_nil)) (fun w' hS => of_bel (same_any 0 0 none none 0 0 0 [] w' Rd.nil Rd.nil rfl (by omega))) ?_)
                                refine tl_step rfl (oj_val (y_pickt (fe_t rfl) (fe_t rfl)) ?_)
                                refine tl_step rfl (oj_val (y_assign (fe_t rfl)) ?_)
                                refine tl_nil ?_
                                refine tx_then ?_
                                refine tr_ret ?_
                                refine tx_then_ret ?_
                                refine tx_ret (res1 Try.results4 (rok_t rfl)) (fun w' hS => ?_)
                                exact ⟨ret_bool (by first | rfl | (simp; done)), hS.pick [] _ rfl (by decide)⟩
                            · try (first | (exfalso; omega) | (exfalso; simp_all; done))
                              all_goals
                                refine tl_skip rfl rfl rfl rfl ?_
                                refine tl_skip rfl rfl rfl rfl ?_
                                refine tl_skip rfl rfl rfl rfl ?_
                                refine tl_step rfl (oj_val (y_pickf (fe_t rfl) fe_c) ?_)
                                refine tl_step rfl (oj_val (y_assign (fe_t rfl)) ?_)
                                refine tl_nil ?_
                                refine tx_then ?_
                                refine tr_ret ?_
                                refine tx_then_ret ?_
                                refine tx_ret (res1 Try.results4 (rok_t rfl)) (fun w' hS => ?_)
                                exact ⟨ret_bool (by first | rfl | (simp; done)), hS.pick [] _ rfl (by decide)⟩
                        · exfalso; first | omega | (simp_all; done)
    · try (first | (exfalso; omega) | (exfalso; simp_all; done))
      all_goals
        refine tl_want rfl rfl rfl (oj_val (y_move (fe_t rfl)) ?_)
        refine tl_want rfl rfl rfl (oj_val (y_gtr (fe_t rfl) fe_c) ?_)
        refine tl_step rfl (oj_val (y_pickf (fe_t rfl) (fe_t rfl)) ?_)
        refine tl_step rfl (oj_val (y_move (fe_t rfl)) ?_)
        refine tl_splitp (d := 34) rfl (fun hq21 => ?_) (fun hq22 => ?_)
        · try (first | (exfalso; omega) | (exfalso; simp_all; done))
          all_goals
            refine tl_skip rfl rfl rfl rfl ?_
            refine tl_skip rfl rfl rfl rfl ?_
            refine tl_step rfl (oj_val (y_pickt (fe_t rfl) fe_c) ?_)
            refine tl_step rfl (oj_val (y_move (fe_t rfl)) ?_)
            refine tl_skip rfl rfl rfl rfl ?_
            refine tl_skip rfl rfl rfl rfl ?_
            refine tl_step rfl (oj_val (y_pickt (fe_t rfl) fe_c) ?_)
            refine tl_nil ?_
            refine tx_then ?_
            refine tr_condt (fe_t rfl) ?_
            refine tr_seq ?_
            refine tr_region ?_
            refine tl_step rfl (oj_val (y_move (fe_t rfl)) ?_)
            refine tl_step rfl (oj_val (y_neq (fe_t rfl) fe_c) ?_)
            refine tl_step rfl (oj_val (y_move (fe_t rfl)) ?_)
            refine tl_splitp (d := 44) rfl (fun hq23 => ?_) (fun hq24 => ?_)
            · try (first | (exfalso; omega) | (exfalso; simp_all; done))
              all_goals
                refine tl_skip rfl rfl rfl rfl ?_
                refine tl_skip rfl rfl rfl rfl ?_
                refine tl_skip rfl rfl rfl rfl ?_
                refine tl_skip rfl rfl rfl rfl ?_
                refine tl_step rfl (oj_val (y_pickt (fe_t rfl) fe_c) ?_)
                refine tl_nil ?_
                refine tx_then ?_
                exfalso; omega
            · try (first | (exfalso; omega) | (exfalso; simp_all; done))
              all_goals
                refine tl_want rfl rfl rfl (oj_val (y_ldbA 1 Try.isAgg33 Try.sizeOf33 (fe_t rfl) rfl rfl rfl) ?_)
                refine tl_want rfl rfl rfl (oj_val (y_build (is := []) (vs := []) (cs := [.int .i64 0, .int .i64 0, .slice none 0 0]) rfl fel_nil (by kernel_rfl)) ?_)
                refine tl_want rfl rfl rfl (oj_callv Try.call21 fe_f (fel_cons (fe_t rfl) (fel_cons (fe_t rfl) fel_nil)) (fun w' hS => of_bel (same_any 0 0 none none 0 0 0 [] w' Rd.nil Rd.nil rfl (by omega))) ?_)
                refine tl_want rfl rfl rfl (oj_val (y_not (fe_t rfl)) ?_)
                refine tl_step rfl (oj_val (y_pickf (fe_t rfl) (fe_t rfl)) ?_)
                refine tl_nil ?_
                refine tx_then ?_
                refine tr_condf (fe_t rfl) ?_
                refine tr_skip ?_
                refine tx_then ?_
                refine tr_seq ?_
                refine tr_seq ?_
                refine tr_region ?_
                refine tl_step rfl (oj_val (y_ldbA 3 Try.isAgg33 Try.sizeOf33 (fe_t rfl) rfl rfl rfl) ?_)
                refine tl_step rfl (oj_callv Try.call22 fe_f (fel_cons (fe_t rfl) fel_nil) (fun w' hS => of_bel (vright_any _ _ A n c za w' (Rd.below hr hS.below) hn (by omega))) ?_)
                refine tl_step rfl (oj_val (y_not (fe_t rfl)) ?_)
                refine tl_step rfl (oj_val (y_move (fe_t rfl)) ?_)
                refine tl_split (d := 67) rfl (fun hq25 => ?_) (fun hq26 => ?_)
                · try (first | (exfalso; omega) | (exfalso; simp_all; done))
                  all_goals
                    refine tl_skip rfl rfl rfl rfl ?_
                    refine tl_skip rfl rfl rfl rfl ?_
                    refine tl_skip rfl rfl rfl rfl ?_
                    refine tl_step rfl (oj_val (y_pickt (fe_t rfl) fe_c) ?_)
                    refine tl_step rfl (oj_val (y_move (fe_t rfl)) ?_)
                    refine tl_skip rfl rfl rfl rfl ?_
                    refine tl_skip rfl rfl rfl rfl ?_
                    refine tl_skip rfl rfl rfl rfl ?_
                    refine tl_skip rfl rfl rfl rfl ?_
                    refine tl_skip rfl rfl rfl rfl ?_
                    refine tl_step rfl (oj_val (y_pickt (fe_t rfl) fe_c) ?_)
                    refine tl_step rfl (oj_val (y_move (fe_t rfl)) ?_)
                    refine tl_skip rfl rfl rfl rfl ?_
                    refine tl_skip rfl rfl rfl rfl ?_
                    refine tl_skip rfl rfl rfl rfl ?_
                    refine tl_skip rfl rfl rfl rfl ?_
                    refine tl_skip rfl rfl rfl rfl ?_
                    refine tl_step rfl (oj_val (y_pickt (fe_t rfl) fe_c) ?_)
                    refine tl_nil ?_
                    refine tx_then ?_
                    refine tr_condt (fe_t rfl) ?_
                    refine tr_seq ?_
                    refine tr_region ?_
                    refine tl_step rfl (oj_val (y_move (fe_t rfl)) ?_)
                    refine tl_step rfl (oj_val (y_eq (fe_t rfl) fe_c) ?_)
                    refine tl_step rfl (oj_val (y_move (fe_t rfl)) ?_)
                    refine tl_splitp (d := 88) rfl (fun hq27 => ?_) (fun hq28 => ?_)
                    · try (first | (exfalso; omega) | (exfalso; simp_all; done))
                      all_goals
                        refine tl_want rfl rfl rfl (oj_val (y_ldbA 0 Try.isAgg33 Try.sizeOf33 (fe_t rfl) rfl rfl rfl) ?_)
                        refine tl_want rfl rfl rfl (oj_val (y_build (is := []) (vs := []) (cs := [.int .i64 0, .int .i64 0, .slice none 0 0]) rfl fel_nil (by kernel_rfl)) ?_)
                        refine tl_want rfl rfl rfl (oj_callv Try.call21 fe_f (fel_cons (fe_t rfl) (fel_cons (fe_t rfl) fel_nil)) (fun w' hS => of_bel (same_any 0 0 none none 0 0 0 [] w' Rd.nil Rd.nil rfl (by omega))) ?_)
                        refine tl_step rfl (oj_val (y_pickt (fe_t rfl) (fe_t rfl)) ?_)
                        refine tl_step rfl (oj_val (y_assign (fe_t rfl)) ?_)
                        refine tl_nil ?_
                        refine tx_then ?_
                        refine tr_ret ?_
                        refine tx_then_ret ?_
                        refine tx_ret (res1 Try.results4 (rok_t rfl)) (fun w' hS => ?_)
                        exact ⟨ret_bool (by first | rfl | (simp; done)), hS.pick [] _ rfl (by decide)⟩
                    · try (first | (exfalso; omega) | (exfalso; simp_all; done))
                      all_goals
                        refine tl_skip rfl rfl rfl rfl ?_
                        refine tl_skip rfl rfl rfl rfl ?_
                        refine tl_skip rfl rfl rfl rfl ?_
                        refine tl_step rfl (oj_val (y_pickf (fe_t rfl) fe_c) ?_)
                        refine tl_step rfl (oj_val (y_assign (fe_t rfl)) ?_)
                        refine tl_nil ?_
                        refine tx_then ?_
                        refine tr_ret ?_
                        refine tx_then_ret ?_
                        refine tx_ret (res1 Try.results4 (rok_t rfl)) (fun w' hS => ?_)
                        exact ⟨ret_bool (by first | rfl | (simp; done)), hS.pick [] _ rfl (by decide)⟩
                · try (first | (exfalso; omega) | (exfalso; simp_all; done))
                  all_goals
                    refine tl_want rfl rfl rfl (oj_val (y_ldbA 2 Try.isAgg33 Try.sizeOf33 (fe_t rfl) rfl rfl rfl) ?_)
                    refine tl_want rfl rfl rfl (oj_callv Try.call22 fe_f (fel_cons (fe_t rfl) fel_nil) (fun w' hS => of_bel (vright_any _ _ B m d zb w' (Rd.below hr' hS.below) hm (by omega))) ?_)
                    refine tl_want rfl rfl rfl (oj_val (y_not (fe_t rfl)) ?_)
                    refine tl_step rfl (oj_val (y_pickf (fe_t rfl) (fe_t rfl)) ?_)
                    refine tl_step rfl (oj_val (y_move (fe_t rfl)) ?_)
                    refine tl_split (d := 72) rfl (fun hq29 => ?_) (fun hq30 => ?_)
                    · try (first | (exfalso; omega) | (exfalso; simp_all; done))
                      all_goals
                        refine tl_skip rfl rfl rfl rfl ?_
                        refine tl_skip rfl rfl rfl rfl ?_
                        refine tl_skip rfl rfl rfl rfl ?_
                        refine tl_skip rfl rfl rfl rfl ?_
                        refine tl_skip rfl rfl rfl rfl ?_
                        refine tl_step rfl (oj_val (y_pickt (fe_t rfl) fe_c) ?_)
                        refine tl_step rfl (oj_val (y_move (fe_t rfl)) ?_)
                        refine tl_skip rfl rfl rfl rfl ?_
                        refine tl_skip rfl rfl rfl rfl ?_
                        refine tl_skip rfl rfl rfl rfl ?_
                        refine tl_skip rfl rfl rfl rfl ?_
                        refine tl_skip rfl rfl rfl rfl ?_
                        refine tl_step rfl (oj_val (y_pickt (fe_t rfl) fe_c) ?_)
                        refine tl_nil ?_
                        refine tx_then ?_
                        refine tr_condt (fe_t rfl) ?_
                        refine tr_seq ?_
                        refine tr_region ?_
                        refine tl_step rfl (oj_val (y_move (fe_t rfl)) ?_)
                        refine tl_step rfl (oj_val (y_eq (fe_t rfl) fe_c) ?_)
                        refine tl_step rfl (oj_val (y_move (fe_t rfl)) ?_)
                        refine tl_splitp (d := 88) rfl (fun hq31 => ?_) (fun hq32 => ?_)
                        · try (first | (exfalso; omega) | (exfalso; simp_all; done))
                          all_goals
                            refine tl_want rfl rfl rfl (oj_val (y_ldbA 0 Try.isAgg33 Try.sizeOf33 (fe_t rfl) rfl rfl rfl) ?_)
                            refine tl_want rfl rfl rfl (oj_val (y_build (is := []) (vs := []) (cs := [.int .i64 0, .int .i64 0, .slice none 0 0]) rfl fel_nil (by kernel_rfl)) ?_)
                            refine tl_want rfl rfl rfl (oj_callv Try.call21 fe_f (fel_cons (fe_t rfl) (fel_cons (fe_t rfl) fel_nil)) (fun w' hS => of_bel (same_any 0 0 none none 0 0 0 [] w' Rd.nil Rd.nil rfl (by omega))) ?_)
                            refine tl_step rfl (oj_val (y_pickt (fe_t rfl) (fe_t rfl)) ?_)
                            refine tl_step rfl (oj_val (y_assign (fe_t rfl)) ?_)
                            refine tl_nil ?_
                            refine tx_then ?_
                            refine tr_ret ?_
                            refine tx_then_ret ?_
                            refine tx_ret (res1 Try.results4 (rok_t rfl)) (fun w' hS => ?_)
                            exact ⟨ret_bool (by first | rfl | (simp; done)), hS.pick [] _ rfl (by decide)⟩
                        · try (first | (exfalso; omega) | (exfalso; simp_all; done))
                          all_goals
                            refine tl_skip rfl rfl rfl rfl ?_
                            refine tl_skip rfl rfl rfl rfl ?_
                            refine tl_skip rfl rfl rfl rfl ?_
                            refine tl_step rfl (oj_val (y_pickf (fe_t rfl) fe_c) ?_)
                            refine tl_step rfl (oj_val (y_assign (fe_t rfl)) ?_)
                            refine tl_nil ?_
                            refine tx_then ?_
                            refine tr_ret ?_
                            refine tx_then_ret ?_
                            refine tx_ret (res1 Try.results4 (rok_t rfl)) (fun w' hS => ?_)
                            exact ⟨ret_bool (by first | rfl | (simp; done)), hS.pick [] _ rfl (by decide)⟩
                    · try (first | (exfalso; omega) | (exfalso; simp_all; done))
                      all_goals
                        refine tl_want rfl rfl rfl (oj_val (y_fieldAddr (td := 3) Try.underlying33 rfl rfl Try.sizeOf3 (o' := 0) rfl (fe_t rfl)) ?_)
                        refine tl_want rfl rfl rfl (oj_val (y_ldb 3 Try.isAgg3 (fe_t rfl) rfl rfl) ?_)
                        refine tl_want rfl rfl rfl (oj_val (y_fieldAddr (td := 3) Try.underlying33 rfl rfl Try.sizeOf3 (o' := 0) rfl (fe_t rfl)) ?_)
                        refine tl_want rfl rfl rfl (oj_val (y_ldb 2 Try.isAgg3 (fe_t rfl) rfl rfl) ?_)
                        refine tl_want rfl rfl rfl (oj_val (y_neq (fe_t rfl) (fe_t rfl)) ?_)
                        refine tl_step rfl (oj_val (y_pickf (fe_t rfl) (fe_t rfl)) ?_)
                        refine tl_step rfl (oj_val (y_move (fe_t rfl)) ?_)
                        refine tl_splitp (d := 79) rfl (fun hq33 => ?_) (fun hq34 => ?_)
                        · try (first | (exfalso; omega) | (exfalso; simp_all; done))
                          all_goals
                            refine tl_skip rfl rfl rfl rfl ?_
                            refine tl_skip rfl rfl rfl rfl ?_
                            refine tl_skip rfl rfl rfl rfl ?_
                            refine tl_skip rfl rfl rfl rfl ?_
                            refine tl_skip rfl rfl rfl rfl ?_
                            refine tl_step rfl (oj_val (y_pickt (fe_t rfl) fe_c) ?_)
                            refine tl_nil ?_
                            refine tx_then ?_
                            refine tr_condt (fe_t rfl) ?_
                            refine tr_seq ?_
                            refine tr_region ?_
                            refine tl_step rfl (oj_val (y_move (fe_t rfl)) ?_)
                            refine tl_step rfl (oj_val (y_eq (fe_t rfl) fe_c) ?_)
                            refine tl_step rfl (oj_val (y_move (fe_t rfl)) ?_)
                            refine tl_splitp (d := 88) rfl (fun hq35 => ?_) (fun hq36 => ?_)
                            · try (first | (exfalso; omega) | (exfalso; simp_all; done))
                              all_goals
                                refine tl_want rfl rfl rfl (oj_val (y_ldbA 0 Try.isAgg33 Try.sizeOf33 (fe_t rfl) rfl rfl rfl) ?_)
                                refine tl_want rfl rfl rfl (oj_val (y_build (is := []) (vs := []) (cs := [.int .i64 0, .int .i64 0, .slice none 0 0]) rfl fel_nil (by kernel_rfl)) ?_)
                                refine tl_want rfl rfl rfl (oj_callv Try.call21 fe_f (fel_cons (fe_t rfl) (fel_cons (fe_t rfl) fel_nil)) (fun w' hS => of_bel (same_any 0 0 none none 0 0 0 [] w' Rd.nil Rd.nil rfl (by omega))) ?_)
                                refine tl_step rfl (oj_val (y_pickt (fe_t rfl) (fe_t rfl)) ?_)
                                refine tl_step rfl (oj_val (y_assign (fe_t rfl)) ?_)
                                refine tl_nil ?_
                                refine tx_then ?_
                                refine tr_ret ?_
                                refine tx_then_ret ?_
                                refine tx_ret (res1 Try.results4 (rok_t rfl)) (fun w' hS => ?_)
                                exact ⟨ret_bool (by first | rfl | (simp; done)), hS.pick [] _ rfl (by decide)⟩
                            · try (first | (exfalso; omega) | (exfalso; simp_all; done))
                              all_goals
                                refine tl_skip rfl rfl rfl rfl ?_
                                refine tl_skip rfl rfl rfl rfl ?_
                                refine tl_skip rfl rfl rfl rfl ?_
                                refine tl_step rfl (oj_val (y_pickf (fe_t rfl) fe_c) ?_)
                                refine tl_step rfl (oj_val (y_assign (fe_t rfl)) ?_)
                                refine tl_nil ?_
                                refine tx_then ?_
                                refine tr_ret ?_
                                refine tx_then_ret ?_
                                refine tx_ret (res1 Try.results4 (rok_t rfl)) (fun w' hS => ?_)
                                exact ⟨ret_bool (by first | rfl | (simp; done)), hS.pick [] _ rfl (by decide)⟩
                        · try (first | (exfalso; omega) | (exfalso; simp_all; done))
                          all_goals
                            refine tl_want rfl rfl rfl (oj_val (y_fieldAddr (td := 3) Try.underlying33 rfl rfl Try.sizeOf3 (o' := 1) rfl (fe_t rfl)) ?_)
                            refine tl_want rfl rfl rfl (oj_val (y_ldb 3 Try.isAgg3 (fe_t rfl) rfl rfl) ?_)
                            refine tl_want rfl rfl rfl (oj_val (y_fieldAddr (td := 3) Try.underlying33 rfl rfl Try.sizeOf3 (o' := 1) rfl (fe_t rfl)) ?_)
                            refine tl_want rfl rfl rfl (oj_val (y_ldb 2 Try.isAgg3 (fe_t rfl) rfl rfl) ?_)
                            refine tl_want rfl rfl rfl (oj_val (y_neq (fe_t rfl) (fe_t rfl)) ?_)
                            refine tl_step rfl (oj_val (y_pickf (fe_t rfl) (fe_t rfl)) ?_)
                            refine tl_nil ?_
                            refine tx_then ?_
                            refine tr_condp (fe_t rfl) (fun hq37 => ?_) (fun hq38 => ?_)
                            · try (first | (exfalso; omega) | (exfalso; simp_all; done))
                              all_goals
                                refine tr_seq ?_
                                refine tr_region ?_
                                refine tl_step rfl (oj_val (y_move (fe_t rfl)) ?_)
                                refine tl_step rfl (oj_val (y_eq (fe_t rfl) fe_c) ?_)
                                refine tl_step rfl (oj_val (y_move (fe_t rfl)) ?_)
                                refine tl_splitp (d := 88) rfl (fun hq39 => ?_) (fun hq40 => ?_)
                                · try (first | (exfalso; omega) | (exfalso; simp_all; done))
                                  all_goals
                                    refine tl_want rfl rfl rfl (oj_val (y_ldbA 0 Try.isAgg33 Try.sizeOf33 (fe_t rfl) rfl rfl rfl) ?_)
                                    refine tl_want rfl rfl rfl (oj_val (y_build (is := []) (vs := []) (cs := [.int .i64 0, .int .i64 0, .slice none 0 0]) rfl fel_nil (by kernel_rfl)) ?_)
                                    refine tl_want rfl rfl rfl (oj_callv Try.call21 fe_f (fel_cons (fe_t rfl) (fel_cons (fe_t rfl) fel_nil)) (fun w' hS => of_bel (same_any 0 0 none none 0 0 0 [] w' Rd.nil Rd.nil rfl (by omega))) ?_)
                                    refine tl_step rfl (oj_val (y_pickt (fe_t rfl) (fe_t rfl)) ?_)
                                    refine tl_step rfl (oj_val (y_assign (fe_t rfl)) ?_)
                                    refine tl_nil ?_
                                    refine tx_then ?_
                                    refine tr_ret ?_
                                    refine tx_then_ret ?_
                                    refine tx_ret (res1 Try.results4 (rok_t rfl)) (fun w' hS => ?_)
                                    exact ⟨ret_bool (by first | rfl | (simp; done)), hS.pick [] _ rfl (by decide)⟩
                                · try (first | (exfalso; omega) | (exfalso; simp_all; done))
                                  all_goals
                                    refine tl_skip rfl rfl rfl rfl ?_
                                    refine tl_skip rfl rfl rfl rfl ?_
                                    refine tl_skip rfl rfl rfl rfl ?_
                                    refine tl_step rfl (oj_val (y_pickf (fe_t rfl) fe_c) ?_)
                                    refine tl_step rfl (oj_val (y_assign (fe_t rfl)) ?_)
                                    refine tl_nil ?_
                                    refine tx_then ?_
                                    refine tr_ret ?_
                                    refine tx_then_ret ?_
                                    refine tx_ret (res1 Try.results4 (rok_t rfl)) (fun w' hS => ?_)
                                    exact ⟨ret_bool (by first | rfl | (simp; done)), hS.pick [] _ rfl (by decide)⟩
                            · exfalso; first | omega | (simp_all; done)
        · try (first | (exfalso; omega) | (exfalso; simp_all; done))
          all_goals
            refine tl_want rfl rfl rfl (oj_val (y_move (fe_t rfl)) ?_)
            refine tl_want rfl rfl rfl (oj_val (y_lss (fe_t rfl) fe_c) ?_)
            refine tl_step rfl (oj_val (y_pickf (fe_t rfl) (fe_t rfl)) ?_)
            refine tl_step rfl (oj_val (y_move (fe_t rfl)) ?_)
            refine tl_splitp (d := 38) rfl (fun hq41 => ?_) (fun hq42 => ?_)
            · try (first | (exfalso; omega) | (exfalso; simp_all; done))
              all_goals
                refine tl_skip rfl rfl rfl rfl ?_
                refine tl_skip rfl rfl rfl rfl ?_
                refine tl_step rfl (oj_val (y_pickt (fe_t rfl) fe_c) ?_)
                refine tl_nil ?_
                refine tx_then ?_
                refine tr_condt (fe_t rfl) ?_
                refine tr_seq ?_
                refine tr_region ?_
                refine tl_step rfl (oj_val (y_move (fe_t rfl)) ?_)
                refine tl_step rfl (oj_val (y_neq (fe_t rfl) fe_c) ?_)
                refine tl_step rfl (oj_val (y_move (fe_t rfl)) ?_)
                refine tl_splitp (d := 44) rfl (fun hq43 => ?_) (fun hq44 => ?_)
                · try (first | (exfalso; omega) | (exfalso; simp_all; done))
                  all_goals
                    refine tl_skip rfl rfl rfl rfl ?_
                    refine tl_skip rfl rfl rfl rfl ?_
                    refine tl_skip rfl rfl rfl rfl ?_
                    refine tl_skip rfl rfl rfl rfl ?_
                    refine tl_step rfl (oj_val (y_pickt (fe_t rfl) fe_c) ?_)
                    refine tl_nil ?_
                    refine tx_then ?_
                    exfalso; omega
                · try (first | (exfalso; omega) | (exfalso; simp_all; done))
                  all_goals
                    refine tl_want rfl rfl rfl (oj_val (y_ldbA 1 Try.isAgg33 Try.sizeOf33 (fe_t rfl) rfl rfl rfl) ?_)
                    refine tl_want rfl rfl rfl (oj_val (y_build (is := []) (vs := []) (cs := [.int .i64 0, .int .i64 0, .slice none 0 0]) rfl fel_nil (by kernel_rfl)) ?_)
                    refine tl_want rfl rfl rfl (oj_callv Try.call21 fe_f (fel_cons (fe_t rfl) (fel_cons (fe_t rfl) fel_nil)) (fun w' hS => of_bel (same_any 0 0 none none 0 0 0 [] w' Rd.nil Rd.nil rfl (by omega))) ?_)
                    refine tl_want rfl rfl rfl (oj_val (y_not (fe_t rfl)) ?_)
                    refine tl_step rfl (oj_val (y_pickf (fe_t rfl) (fe_t rfl)) ?_)
                    refine tl_nil ?_
                    refine tx_then ?_
                    refine tr_condf (fe_t rfl) ?_
                    refine tr_skip ?_
                    refine tx_then ?_
                    refine tr_seq ?_
                    refine tr_seq ?_
                    refine tr_region ?_
                    refine tl_step rfl (oj_val (y_ldbA 3 Try.isAgg33 Try.sizeOf33 (fe_t rfl) rfl rfl rfl) ?_)
                    refine tl_step rfl (oj_callv Try.call22 fe_f (fel_cons (fe_t rfl) fel_nil) (fun w' hS => of_bel (vright_any _ _ A n c za w' (Rd.below hr hS.below) hn (by omega))) ?_)
                    refine tl_step rfl (oj_val (y_not (fe_t rfl)) ?_)
                    refine tl_step rfl (oj_val (y_move (fe_t rfl)) ?_)
                    refine tl_split (d := 67) rfl (fun hq45 => ?_) (fun hq46 => ?_)
                    · try (first | (exfalso; omega) | (exfalso; simp_all; done))
                      all_goals
                        refine tl_skip rfl rfl rfl rfl ?_
                        refine tl_skip rfl rfl rfl rfl ?_
                        refine tl_skip rfl rfl rfl rfl ?_
                        refine tl_step rfl (oj_val (y_pickt (fe_t rfl) fe_c) ?_)
                        refine tl_step rfl (oj_val (y_move (fe_t rfl)) ?_)
                        refine tl_skip rfl rfl rfl rfl ?_
                        refine tl_skip rfl rfl rfl rfl ?_
                        refine tl_skip rfl rfl rfl rfl ?_
                        refine tl_skip rfl rfl rfl rfl ?_
                        refine tl_skip rfl rfl rfl rfl ?_
                        refine tl_step rfl (oj_val (y_pickt (fe_t rfl) fe_c) ?_)
                        refine tl_step rfl (oj_val (y_move (fe_t rfl)) ?_)
                        refine tl_skip rfl rfl rfl rfl ?_
                        refine tl_skip rfl rfl rfl rfl ?_
                        refine tl_skip rfl rfl rfl rfl ?_
                        refine tl_skip rfl rfl rfl rfl ?_
                        refine tl_skip rfl rfl rfl rfl ?_
                        refine tl_step rfl (oj_val (y_pickt (fe_t rfl) fe_c) ?_)
                        refine tl_nil ?_
                        refine tx_then ?_
                        refine tr_condt (fe_t rfl) ?_
                        refine tr_seq ?_
                        refine tr_region ?_
                        refine tl_step rfl (oj_val (y_move (fe_t rfl)) ?_)
                        refine tl_step rfl (oj_val (y_eq (fe_t rfl) fe_c) ?_)
                        refine tl_step rfl (oj_val (y_move (fe_t rfl)) ?_)
                        refine tl_splitp (d := 88) rfl (fun hq47 => ?_) (fun hq48 => ?_)
                        · try (first | (exfalso; omega) | (exfalso; simp_all; done))
                          all_goals
                            refine tl_want rfl rfl rfl (oj_val (y_ldbA 0 Try.isAgg33 Try.sizeOf33 (fe_t rfl) rfl rfl rfl) ?_)
                            refine tl_want rfl rfl rfl (oj_val (y_build (is := []) (vs := []) (cs := [.int .i64 0, .int .i64 0, .slice none 0 0]) rfl fel_nil (by kernel_rfl)) ?_)
                            refine tl_want rfl rfl rfl (oj_callv Try.call21 fe_f (fel_cons (fe_t rfl) (fel_cons (fe_t rfl) fel_nil)) (fun w' hS => of_bel (same_any 0 0 none none 0 0 0 [] w' Rd.nil Rd.nil rfl (by omega))) ?_)
                            refine tl_step rfl (oj_val (y_pickt (fe_t rfl) (fe_t rfl)) ?_)
                            refine tl_step rfl (oj_val (y_assign (fe_t rfl)) ?_)
                            refine tl_nil ?_
                            refine tx_then ?_
                            refine tr_ret ?_
                            refine tx_then_ret ?_
                            refine tx_ret (res1 Try.results4 (rok_t rfl)) (fun w' hS => ?_)
                            exact ⟨ret_bool (by first | rfl | (simp; done)), hS.pick [] _ rfl (by decide)⟩
                        · try (first | (exfalso; omega) | (exfalso; simp_all; done))
                          all_goals
                            refine tl_skip rfl rfl rfl rfl ?_
                            refine tl_skip rfl rfl rfl rfl ?_
                            refine tl_skip rfl rfl rfl rfl ?_
                            refine tl_step rfl (oj_val (y_pickf (fe_t rfl) fe_c) ?_)
                            refine tl_step rfl (oj_val (y_assign (fe_t rfl)) ?_)
                            refine tl_nil ?_
                            refine tx_then ?_
                            refine tr_ret ?_
                            refine tx_then_ret ?_
                            refine tx_ret (res1 Try.results4 (rok_t rfl)) (fun w' hS => ?_)
                            exact ⟨ret_bool (by first | rfl | (simp; done)), hS.pick [] _ rfl (by decide)⟩
                    · try (first | (exfalso; omega) | (exfalso; simp_all; done))
                      all_goals
                        refine tl_want rfl rfl rfl (oj_val (y_ldbA 2 Try.isAgg33 Try.sizeOf33 (fe_t rfl) rfl rfl rfl) ?_)
                        refine tl_want rfl rfl rfl (oj_callv Try.call22 fe_f (fel_cons (fe_t rfl) fel_nil) (fun w' hS => of_bel (vright_any _ _ B m d zb w' (Rd.below hr' hS.below) hm (by omega))) ?_)
                        refine tl_want rfl rfl rfl (oj_val (y_not (fe_t rfl)) ?_)
                        refine tl_step rfl (oj_val (y_pickf (fe_t rfl) (fe_t rfl)) ?_)
                        refine tl_step rfl (oj_val (y_move (fe_t rfl)) ?_)
                        refine tl_split (d := 72) rfl (fun hq49 => ?_) (fun hq50 => ?_)
                        · try (first | (exfalso; omega) | (exfalso; simp_all; done))
                          all_goals
                            refine tl_skip rfl rfl rfl rfl ?_
                            refine tl_skip rfl rfl rfl rfl ?_
                            refine tl_skip rfl rfl rfl rfl ?_
                            refine tl_skip rfl rfl rfl rfl ?_
                            refine tl_skip rfl rfl rfl rfl ?_
                            refine tl_step rfl (oj_val (y_pickt (fe_t rfl) fe_c) ?_)
                            refine tl_step rfl (oj_val (y_move (fe_t rfl)) ?_)
                            refine tl_skip rfl rfl rfl rfl ?_
                            refine tl_skip rfl rfl rfl rfl ?_
                            refine tl_skip rfl rfl rfl rfl ?_
                            refine tl_skip rfl rfl rfl rfl ?_
                            refine tl_skip rfl rfl rfl rfl ?_
                            refine tl_step rfl (oj_val (y_pickt (fe_t rfl) fe_c) ?_)
                            refine tl_nil ?_
                            refine tx_then ?_
                            refine tr_condt (fe_t rfl) ?_
                            refine tr_seq ?_
                            refine tr_region ?_
                            refine tl_step rfl (oj_val (y_move (fe_t rfl)) ?_)
                            refine tl_step rfl (oj_val (y_eq (fe_t rfl) fe_c) ?_)
                            refine tl_step rfl (oj_val (y_move (fe_t rfl)) ?_)
                            refine tl_splitp (d := 88) rfl (fun hq51 => ?_) (fun hq52 => ?_)
                            · try (first | (exfalso; omega) | (exfalso; simp_all; done))
                              all_goals
                                refine tl_want rfl rfl rfl (oj_val (y_ldbA 0 Try.isAgg33 Try.sizeOf33 (fe_t rfl) rfl rfl rfl) ?_)
                                refine tl_want rfl rfl rfl (oj_val (y_build (is := []) (vs := []) (cs := [.int .i64 0, .int .i64 0, .slice none 0 0]) rfl fel_nil (by kernel_rfl)) ?_)
                                refine tl_want rfl rfl rfl (oj_callv Try.call21 fe_f (fel_cons (fe_t rfl) (fel_cons (fe_t rfl) fel_nil)) (fun w' hS => of_bel (same_any 0 0 none none 0 0 0 [] w' Rd.nil Rd.nil rfl (by omega))) ?_)
                                refine tl_step rfl (oj_val (y_pickt (fe_t rfl) (fe_t rfl)) ?_)
                                refine tl_step rfl (oj_val (y_assign (fe_t rfl)) ?_)
                                refine tl_nil ?_
                                refine tx_then ?_
                                refine tr_ret ?_
                                refine tx_then_ret ?_
                                refine tx_ret (res1 Try.results4 (rok_t rfl)) (fun w' hS => ?_)
                                exact ⟨ret_bool (by first | rfl | (simp; done)), hS.pick [] _ rfl (by decide)⟩
                            · try (first | (exfalso; omega) | (exfalso; simp_all; done))
                              all_goals
                                refine tl_skip rfl rfl rfl rfl ?_
                                refine tl_skip rfl rfl rfl rfl ?_
                                refine tl_skip rfl rfl rfl rfl ?_
                                refine tl_step rfl (oj_val (y_pickf (fe_t rfl) fe_c) ?_)
                                refine tl_step rfl (oj_val (y_assign (fe_t rfl)) ?_)
                                refine tl_nil ?_
                                refine tx_then ?_
                                refine tr_ret ?_
                                refine tx_then_ret ?_
                                refine tx_ret (res1 Try.results4 (rok_t rfl)) (fun w' hS => ?_)
                                exact ⟨ret_bool (by first | rfl | (simp; done)), hS.pick [] _ rfl (by decide)⟩
                        · try (first | (exfalso; omega) | (exfalso; simp_all; done))
                          all_goals
                            refine tl_want rfl rfl rfl (oj_val (y_fieldAddr (td := 3) Try.underlying33 rfl rfl Try.sizeOf3 (o' := 0) rfl (fe_t rfl)) ?_)
                            refine tl_want rfl rfl rfl (oj_val (y_ldb 3 Try.isAgg3 (fe_t rfl) rfl rfl) ?_)
                            refine tl_want rfl rfl rfl (oj_val (y_fieldAddr (td := 3) Try.underlying33 rfl rfl Try.sizeOf3 (o' := 0) rfl (fe_t rfl)) ?_)
                            refine tl_want rfl rfl rfl (oj_val (y_ldb 2 Try.isAgg3 (fe_t rfl) rfl rfl) ?_)
                            refine tl_want rfl rfl rfl (oj_val (y_neq (fe_t rfl) (fe_t rfl)) ?_)
                            refine tl_step rfl (oj_val (y_pickf (fe_t rfl) (fe_t rfl)) ?_)
                            refine tl_step rfl (oj_val (y_move (fe_t rfl)) ?_)
                            refine tl_splitp (d := 79) rfl (fun hq53 => ?_) (fun hq54 => ?_)
                            · try (first | (exfalso; omega) | (exfalso; simp_all; done))
                              all_goals
                                refine tl_skip rfl rfl rfl rfl ?_
                                refine tl_skip rfl rfl rfl rfl ?_
                                refine tl_skip rfl rfl rfl rfl ?_
                                refine tl_skip rfl rfl rfl rfl ?_
                                refine tl_skip rfl rfl rfl rfl ?_
                                refine tl_step rfl (oj_val (y_pickt (fe_t rfl) fe_c) ?_)
                                refine tl_nil ?_
                                refine tx_then ?_
                                refine tr_condt (fe_t rfl) ?_
                                refine tr_seq ?_
                                refine tr_region ?_
                                refine tl_step rfl (oj_val (y_move (fe_t rfl)) ?_)
                                refine tl_step rfl (oj_val (y_eq (fe_t rfl) fe_c) ?_)
                                refine tl_step rfl (oj_val (y_move (fe_t rfl)) ?_)
                                refine tl_splitp (d := 88) rfl (fun hq55 => ?_) (fun hq56 => ?_)
                                · try (first | (exfalso; omega) | (exfalso; simp_all; done))
                                  all_goals
                                    refine tl_want rfl rfl rfl (oj_val (y_ldbA 0 Try.isAgg33 Try.sizeOf33 (fe_t rfl) rfl rfl rfl) ?_)
                                    refine tl_want rfl rfl rfl (oj_val (y_build (is := []) (vs := []) (cs := [.int .i64 0, .int .i64 0, .slice none 0 0]) rfl fel_nil (by kernel_rfl)) ?_)
                                    refine tl_want rfl rfl rfl (oj_callv Try.call21 fe_f (fel_cons (fe_t rfl) (fel_cons (fe_t rfl) fel_nil)) (fun w' hS => of_bel (same_any 0 0 none none 0 0 0 [] w' Rd.nil Rd.nil rfl (by omega))) ?_)
                                    refine tl_step rfl (oj_val (y_pickt (fe_t rfl) (fe_t rfl)) ?_)
                                    refine tl_step rfl (oj_val (y_assign (fe_t rfl)) ?_)
                                    refine tl_nil ?_
                                    refine tx_then ?_
                                    refine tr_ret ?_
                                    refine tx_then_ret ?_
                                    refine tx_ret (res1 Try.results4 (rok_t rfl)) (fun w' hS => ?_)
                                    exact ⟨ret_bool (by first | rfl | (simp; done)), hS.pick [] _ rfl (by decide)⟩
                                · try (first | (exfalso; omega) | (exfalso; simp_all; done))
                                  all_goals
                                    refine tl_skip rfl rfl rfl rfl ?_
                                    refine tl_skip rfl rfl rfl rfl ?_
                                    refine tl_skip rfl rfl rfl rfl ?_
                                    refine tl_step rfl (oj_val (y_pickf (fe_t rfl) fe_c) ?_)
                                    refine tl_step rfl (oj_val (y_assign (fe_t rfl)) ?_)
                                    refine tl_nil ?_
                                    refine tx_then ?_
                                    refine tr_ret ?_
                                    refine tx_then_ret ?_
                                    refine tx_ret (res1 Try.results4 (rok_t rfl)) (fun w' hS => ?_)
                                    exact ⟨ret_bool (by first | rfl | (simp; done)), hS.pick [] _ rfl (by decide)⟩
                            · try (first | (exfalso; omega) | (exfalso; simp_all; done))
                              all_goals
                                refine tl_want rfl rfl rfl (oj_val (y_fieldAddr (td := 3) Try.underlying33 rfl rfl Try.sizeOf3 (o' := 1) rfl (fe_t rfl)) ?_)
                                refine tl_want rfl rfl rfl (oj_val (y_ldb 3 Try.isAgg3 (fe_t rfl) rfl rfl) ?_)
                                refine tl_want rfl rfl rfl (oj_val (y_fieldAddr (td := 3) Try.underlying33 rfl rfl Try.sizeOf3 (o' := 1) rfl (fe_t rfl)) ?_)
                                refine tl_want rfl rfl rfl (oj_val (y_ldb 2 Try.isAgg3 (fe_t rfl) rfl rfl) ?_)
                                refine tl_want rfl rfl rfl (oj_val (y_neq (fe_t rfl) (fe_t rfl)) ?_)
                                refine tl_step rfl (oj_val (y_pickf (fe_t rfl) (fe_t rfl)) ?_)
                                refine tl_nil ?_
                                refine tx_then ?_
                                refine tr_condp (fe_t rfl) (fun hq57 => ?_) (fun hq58 => ?_)
                                · try (first | (exfalso; omega) | (exfalso; simp_all; done))
                                  all_goals
                                    refine tr_seq ?_
                                    refine tr_region ?_
                                    refine tl_step rfl (oj_val (y_move (fe_t rfl)) ?_)
                                    refine tl_step rfl (oj_val (y_eq (fe_t rfl) fe_c) ?_)
                                    refine tl_step rfl (oj_val (y_move (fe_t rfl)) ?_)
                                    refine tl_splitp (d := 88) rfl (fun hq59 => ?_) (fun hq60 => ?_)
                                    · try (first | (exfalso; omega) | (exfalso; simp_all; done))
                                      all_goals
                                        refine tl_want rfl rfl rfl (oj_val (y_ldbA 0 Try.isAgg33 Try.sizeOf33 (fe_t rfl) rfl rfl rfl) ?_)
                                        refine tl_want rfl rfl rfl (oj_val (y_build (is := []) (vs := []) (cs := [.int .i64 0, .int .i64 0, .slice none 0 0]) rfl fel_nil (by kernel_rfl)) ?_)
                                        refine tl_want rfl rfl rfl (oj_callv Try.call21 fe_f (fel_cons (fe_t rfl) (fel_cons (fe_t rfl) fel_nil)) (fun w' hS => of_bel (same_any 0 0 none none 0 0 0 [] w' Rd.nil Rd.nil rfl (by omega))) ?_)
                                        refine tl_step rfl (oj_val (y_pickt (fe_t rfl) (fe_t rfl)) ?_)
                                        refine tl_step rfl (oj_val (y_assign (fe_t rfl)) ?_)
                                        refine tl_nil ?_
                                        refine tx_then ?_
                                        refine tr_ret ?_
                                        refine tx_then_ret ?_
                                        refine tx_ret (res1 Try.results4 (rok_t rfl)) (fun w' hS => ?_)
                                        exact ⟨ret_bool (by first | rfl | (simp; done)), hS.pick [] _ rfl (by decide)⟩
                                    · try (first | (exfalso; omega) | (exfalso; simp_all; done))
                                      all_goals
                                        refine tl_skip rfl rfl rfl rfl ?_
                                        refine tl_skip rfl rfl rfl rfl ?_
                                        refine tl_skip rfl rfl rfl rfl ?_
                                        refine tl_step rfl (oj_val (y_pickf (fe_t rfl) fe_c) ?_)
                                        refine tl_step rfl (oj_val (y_assign (fe_t rfl)) ?_)
                                        refine tl_nil ?_
                                        refine tx_then ?_
                                        refine tr_ret ?_
                                        refine tx_then_ret ?_
                                        refine tx_ret (res1 Try.results4 (rok_t rfl)) (fun w' hS => ?_)
                                        exact ⟨ret_bool (by first | rfl | (simp; done)), hS.pick [] _ rfl (by decide)⟩
                                · exfalso; first | omega | (simp_all; done)
            · try (first | (exfalso; omega) | (exfalso; simp_all; done))
              all_goals
                refine tl_want rfl rfl rfl (oj_val (y_move (fe_t rfl)) ?_)
                refine tl_want rfl rfl rfl (oj_val (y_gtr (fe_t rfl) fe_c) ?_)
                refine tl_step rfl (oj_val (y_pickf (fe_t rfl) (fe_t rfl)) ?_)
                refine tl_nil ?_
                refine tx_then ?_
                refine tr_condp (fe_t rfl) (fun hq61 => ?_) (fun hq62 => ?_)
                · try (first | (exfalso; omega) | (exfalso; simp_all; done))
                  all_goals
                    refine tr_seq ?_
                    refine tr_region ?_
                    refine tl_step rfl (oj_val (y_move (fe_t rfl)) ?_)
                    refine tl_step rfl (oj_val (y_neq (fe_t rfl) fe_c) ?_)
                    refine tl_step rfl (oj_val (y_move (fe_t rfl)) ?_)
                    refine tl_splitp (d := 44) rfl (fun hq63 => ?_) (fun hq64 => ?_)
                    · try (first | (exfalso; omega) | (exfalso; simp_all; done))
                      all_goals
                        refine tl_skip rfl rfl rfl rfl ?_
                        refine tl_skip rfl rfl rfl rfl ?_
                        refine tl_skip rfl rfl rfl rfl ?_
                        refine tl_skip rfl rfl rfl rfl ?_
                        refine tl_step rfl (oj_val (y_pickt (fe_t rfl) fe_c) ?_)
                        refine tl_nil ?_
                        refine tx_then ?_
                        exfalso; omega
                    · try (first | (exfalso; omega) | (exfalso; simp_all; done))
                      all_goals
                        refine tl_want rfl rfl rfl (oj_val (y_ldbA 1 Try.isAgg33 Try.sizeOf33 (fe_t rfl) rfl rfl rfl) ?_)
                        refine tl_want rfl rfl rfl (oj_val (y_build (is := []) (vs := []) (cs := [.int .i64 0, .int .i64 0, .slice none 0 0]) rfl fel_nil (by kernel_rfl)) ?_)
                        refine tl_want rfl rfl rfl (oj_callv Try.call21 fe_f (fel_cons (fe_t rfl) (fel_cons (fe_t rfl) fel_nil)) (fun w' hS => of_bel (same_any 0 0 none none 0 0 0 [] w' Rd.nil Rd.nil rfl (by omega))) ?_)
                        refine tl_want rfl rfl rfl (oj_val (y_not (fe_t rfl)) ?_)
                        refine tl_step rfl (oj_val (y_pickf (fe_t rfl) (fe_t rfl)) ?_)
                        refine tl_nil ?_
                        refine tx_then ?_
                        refine tr_condf (fe_t rfl) ?_
                        refine tr_skip ?_
                        refine tx_then ?_
                        refine tr_seq ?_
                        refine tr_seq ?_
                        refine tr_region ?_
                        refine tl_step rfl (oj_val (y_ldbA 3 Try.isAgg33 Try.sizeOf33 (fe_t rfl) rfl rfl rfl) ?_)
                        refine tl_step rfl (oj_callv Try.call22 fe_f (fel_cons (fe_t rfl) fel_nil) (fun w' hS => of_bel (vright_any _ _ A n c za w' (Rd.below hr hS.below) hn (by omega))) ?_)
                        refine tl_step rfl (oj_val (y_not (fe_t rfl)) ?_)
                        refine tl_step rfl (oj_val (y_move (fe_t rfl)) ?_)
                        refine tl_split (d := 67) rfl (fun hq65 => ?_) (fun hq66 => ?_)
                        · try (first | (exfalso; omega) | (exfalso; simp_all; done))
                          all_goals
                            refine tl_skip rfl rfl rfl rfl ?_
                            refine tl_skip rfl rfl rfl rfl ?_
                            refine tl_skip rfl rfl rfl rfl ?_
                            refine tl_step rfl (oj_val (y_pickt (fe_t rfl) fe_c) ?_)
                            refine tl_step rfl (oj_val (y_move (fe_t rfl)) ?_)
                            refine tl_skip rfl rfl rfl rfl ?_
                            refine tl_skip rfl rfl rfl rfl ?_
                            refine tl_skip rfl rfl rfl rfl ?_
                            refine tl_skip rfl rfl rfl rfl ?_
                            refine tl_skip rfl rfl rfl rfl ?_
                            refine tl_step rfl (oj_val (y_pickt (fe_t rfl) fe_c) ?_)
                            refine tl_step rfl (oj_val (y_move (fe_t rfl)) ?_)
                            refine tl_skip rfl rfl rfl rfl ?_
                            refine tl_skip rfl rfl rfl rfl ?_
                            refine tl_skip rfl rfl rfl rfl ?_
                            refine tl_skip rfl rfl rfl rfl ?_
                            refine tl_skip rfl rfl rfl rfl ?_
                            refine tl_step rfl (oj_val (y_pickt (fe_t rfl) fe_c) ?_)
                            refine tl_nil ?_
                            refine tx_then ?_
                            refine tr_condt (fe_t rfl) ?_
                            refine tr_seq ?_
                            refine tr_region ?_
                            refine tl_step rfl (oj_val (y_move (fe_t rfl)) ?_)
                            refine tl_step rfl (oj_val (y_eq (fe_t rfl) fe_c) ?_)
                            refine tl_step rfl (oj_val (y_move (fe_t rfl)) ?_)
                            refine tl_splitp (d := 88) rfl (fun hq67 => ?_) (fun hq68 => ?_)
                            · try (first | (exfalso; omega) | (exfalso; simp_all; done))
                              all_goals
                                refine tl_want rfl rfl rfl (oj_val (y_ldbA 0 Try.isAgg33 Try.sizeOf33 (fe_t rfl) rfl rfl rfl) ?_)
                                refine tl_want rfl rfl rfl (oj_val (y_build (is := []) (vs := []) (cs := [.int .i64 0, .int .i64 0, .slice none 0 0]) rfl fel_nil (by kernel_rfl)) ?_)
                                refine tl_want rfl rfl rfl (oj_callv Try.call21 fe_f (fel_cons (fe_t rfl) (fel_cons (fe_t rfl) fel_nil)) (fun w' hS => of_bel (same_any 0 0 none none 0 0 0 [] w' Rd.nil Rd.nil rfl (by omega))) ?_)
                                refine tl_step rfl (oj_val (y_pickt (fe_t rfl) (fe_t rfl)) ?_)
                                refine tl_step rfl (oj_val (y_assign (fe_t rfl)) ?_)
                                refine tl_nil ?_
                                refine tx_then ?_
                                refine tr_ret ?_
                                refine tx_then_ret ?_
                                refine tx_ret (res1 Try.results4 (rok_t rfl)) (fun w' hS => ?_)
                                exact ⟨ret_bool (by first | rfl | (simp; done)), hS.pick [] _ rfl (by decide)⟩
                            · try (first | (exfalso; omega) | (exfalso; simp_all; done))
                              all_goals
                                refine tl_skip rfl rfl rfl rfl ?_
                                refine tl_skip rfl rfl rfl rfl ?_
                                refine tl_skip rfl rfl rfl rfl ?_
                                refine tl_step rfl (oj_val (y_pickf (fe_t rfl) fe_c) ?_)
                                refine tl_step rfl (oj_val (y_assign (fe_t rfl)) ?_)
                                refine tl_nil ?_
                                refine tx_then ?_
                                refine tr_ret ?_
                                refine tx_then_ret ?_
                                refine tx_ret (res1 Try.results4 (rok_t rfl)) (fun w' hS => ?_)
                                exact ⟨ret_bool (by first | rfl | (simp; done)), hS.pick [] _ rfl (by decide)⟩
                        · try (first | (exfalso; omega) | (exfalso; simp_all; done))
                          all_goals
                            refine tl_want rfl rfl rfl (oj_val (y_ldbA 2 Try.isAgg33 Try.sizeOf33 (fe_t rfl) rfl rfl rfl) ?_)
                            refine tl_want rfl rfl rfl (oj_callv Try.call22 fe_f (fel_cons (fe_t rfl) fel_nil) (fun w' hS => of_bel (vright_any _ _ B m d zb w' (Rd.below hr' hS.below) hm (by omega))) ?_)
                            refine tl_want rfl rfl rfl (oj_val (y_not (fe_t rfl)) ?_)
                            refine tl_step rfl (oj_val (y_pickf (fe_t rfl) (fe_t rfl)) ?_)
                            refine tl_step rfl (oj_val (y_move (fe_t rfl)) ?_)
                            refine tl_split (d := 72) rfl (fun hq69 => ?_) (fun hq70 => ?_)
                            · try (first | (exfalso; omega) | (exfalso; simp_all; done))
                              all_goals
                                refine tl_skip rfl rfl rfl rfl ?_
                                refine tl_skip rfl rfl rfl rfl ?_
                                refine tl_skip rfl rfl rfl rfl ?_
                                refine tl_skip rfl rfl rfl rfl ?_
                                refine tl_skip rfl rfl rfl rfl ?_
                                refine tl_step rfl (oj_val (y_pickt (fe_t rfl) fe_c) ?_)
                                refine tl_step rfl (oj_val (y_move (fe_t rfl)) ?_)
                                refine tl_skip rfl rfl rfl rfl ?_
                                refine tl_skip rfl rfl rfl rfl ?_
                                refine tl_skip rfl rfl rfl rfl ?_
                                refine tl_skip rfl rfl rfl rfl ?_
                                refine tl_skip rfl rfl rfl rfl ?_
                                refine tl_step rfl (oj_val (y_pickt (fe_t rfl) fe_c) ?_)
                                refine tl_nil ?_
                                refine tx_then ?_
                                refine tr_condt (fe_t rfl) ?_
                                refine tr_seq ?_
                                refine tr_region ?_
                                refine tl_step rfl (oj_val (y_move (fe_t rfl)) ?_)
                                refine tl_step rfl (oj_val (y_eq (fe_t rfl) fe_c) ?_)
                                refine tl_step rfl (oj_val (y_move (fe_t rfl)) ?_)
                                refine tl_splitp (d := 88) rfl (fun hq71 => ?_) (fun hq72 => ?_)
                                · try (first | (exfalso; omega) | (exfalso; simp_all; done))
                                  all_goals
                                    refine tl_want rfl rfl rfl (oj_val (y_ldbA 0 Try.isAgg33 Try.sizeOf33 (fe_t rfl) rfl rfl rfl) ?_)
                                    refine tl_want rfl rfl rfl (oj_val (y_build (is := []) (vs := []) (cs := [.int .i64 0, .int .i64 0, .slice none 0 0]) rfl fel_nil (by kernel_rfl)) ?_)
                                    refine tl_want rfl rfl rfl (oj_callv Try.call21 fe_f (fel_cons (fe_t rfl) (fel_cons (fe_t rfl) fel_nil)) (fun w' hS => of_bel (same_any 0 0 none none 0 0 0 [] w' Rd.nil Rd.nil rfl (by omega))) ?_)
                                    refine tl_step rfl (oj_val (y_pickt (fe_t rfl) (fe_t rfl)) ?_)
                                    refine tl_step rfl (oj_val (y_assign (fe_t rfl)) ?_)
                                    refine tl_nil ?_
                                    refine tx_then ?_
                                    refine tr_ret ?_
                                    refine tx_then_ret ?_
                                    refine tx_ret (res1 Try.results4 (rok_t rfl)) (fun w' hS => ?_)
                                    exact ⟨ret_bool (by first | rfl | (simp; done)), hS.pick [] _ rfl (by decide)⟩
                                · try (first | (exfalso; omega) | (exfalso; simp_all; done))
                                  all_goals
                                    refine tl_skip rfl rfl rfl rfl ?_
                                    refine tl_skip rfl rfl rfl rfl ?_
                                    refine tl_skip rfl rfl rfl rfl ?_
                                    refine tl_step rfl (oj_val (y_pickf (fe_t rfl) fe_c) ?_)
                                    refine tl_step rfl (oj_val (y_assign (fe_t rfl)) ?_)
                                    refine tl_nil ?_
                                    refine tx_then ?_
                                    refine tr_ret ?_
                                    refine tx_then_ret ?_
                                    refine tx_ret (res1 Try.results4 (rok_t rfl)) (fun w' hS => ?_)
                                    exact ⟨ret_bool (by first | rfl | (simp; done)), hS.pick [] _ rfl (by decide)⟩
                            · try (first | (exfalso; omega) | (exfalso; simp_all; done))
                              all_goals
                                refine tl_want rfl rfl rfl (oj_val (y_fieldAddr (td := 3) Try.underlying33 rfl rfl Try.sizeOf3 (o' := 0) rfl (fe_t rfl)) ?_)
                                refine tl_want rfl rfl rfl (oj_val (y_ldb 3 Try.isAgg3 (fe_t rfl) rfl rfl) ?_)
                                refine tl_want rfl rfl rfl (oj_val (y_fieldAddr (td := 3) Try.underlying33 rfl rfl Try.sizeOf3 (o' := 0) rfl (fe_t rfl)) ?_)
                                refine tl_want rfl rfl rfl (oj_val (y_ldb 2 Try.isAgg3 (fe_t rfl) rfl rfl) ?_)
                                refine tl_want rfl rfl rfl (oj_val (y_neq (fe_t rfl) (fe_t rfl)) ?_)
                                refine tl_step rfl (oj_val (y_pickf (fe_t rfl) (fe_t rfl)) ?_)
                                refine tl_step rfl (oj_val (y_move (fe_t rfl)) ?_)
                                refine tl_splitp (d := 79) rfl (fun hq73 => ?_) (fun hq74 => ?_)
                                · try (first | (exfalso; omega) | (exfalso; simp_all; done))
                                  all_goals
                                    refine tl_skip rfl rfl rfl rfl ?_
                                    refine tl_skip rfl rfl rfl rfl ?_
                                    refine tl_skip rfl rfl rfl rfl ?_
                                    refine tl_skip rfl rfl rfl rfl ?_
                                    refine tl_skip rfl rfl rfl rfl ?_
                                    refine tl_step rfl (oj_val (y_pickt (fe_t rfl) fe_c) ?_)
                                    refine tl_nil ?_
                                    refine tx_then ?_
                                    refine tr_condt (fe_t rfl) ?_
                                    refine tr_seq ?_
                                    refine tr_region ?_
                                    refine tl_step rfl (oj_val (y_move (fe_t rfl)) ?_)
                                    refine tl_step rfl (oj_val (y_eq (fe_t rfl) fe_c) ?_)
                                    refine tl_step rfl (oj_val (y_move (fe_t rfl)) ?_)
                                    refine tl_splitp (d := 88) rfl (fun hq75 => ?_) (fun hq76 => ?_)
                                    · try (first | (exfalso; omega) | (exfalso; simp_all; done))
                                      all_goals
                                        refine tl_want rfl rfl rfl (oj_val (y_ldbA 0 Try.isAgg33 Try.sizeOf33 (fe_t rfl) rfl rfl rfl) ?_)
                                        refine tl_want rfl rfl rfl (oj_val (y_build (is := []) (vs := []) (cs := [.int .i64 0, .int .i64 0, .slice none 0 0]) rfl fel_nil (by kernel_rfl)) ?_)
                                        refine tl_want rfl rfl rfl (oj_callv Try.call21 fe_f (fel_cons (fe_t rfl) (fel_cons (fe_t rfl) fel_nil)) (fun w' hS => of_bel (same_any 0 0 none none 0 0 0 [] w' Rd.nil Rd.nil rfl (by omega))) ?_)
                                        refine tl_step rfl (oj_val (y_pickt (fe_t rfl) (fe_t rfl)) ?_)
                                        refine tl_step rfl (oj_val (y_assign (fe_t rfl)) ?_)
                                        refine tl_nil ?_
                                        refine tx_then ?_
                                        refine tr_ret ?_
                                        refine tx_then_ret ?_
                                        refine tx_ret (res1 Try.results4 (rok_t rfl)) (fun w' hS => ?_)
                                        exact ⟨ret_bool (by first | rfl | (simp; done)), hS.pick [] _ rfl (by decide)⟩
                                    · try (first | (exfalso; omega) | (exfalso; simp_all; done))
                                      all_goals
                                        refine tl_skip rfl rfl rfl rfl ?_
                                        refine tl_skip rfl rfl rfl rfl ?_
                                        refine tl_skip rfl rfl rfl rfl ?_
                                        refine tl_step rfl (oj_val (y_pickf (fe_t rfl) fe_c) ?_)
                                        refine tl_step rfl (oj_val (y_assign (fe_t rfl)) ?_)
                                        refine tl_nil ?_
                                        refine tx_then ?_
                                        refine tr_ret ?_
                                        refine tx_then_ret ?_
                                        refine tx_ret (res1 Try.results4 (rok_t rfl)) (fun w' hS => ?_)
                                        exact ⟨ret_bool (by first | rfl | (simp; done)), hS.pick [] _ rfl (by decide)⟩
                                · try (first | (exfalso; omega) | (exfalso; simp_all; done))
                                  all_goals
                                    refine tl_want rfl rfl rfl (oj_val (y_fieldAddr (td := 3) Try.underlying33 rfl rfl Try.sizeOf3 (o' := 1) rfl (fe_t rfl)) ?_)
                                    refine tl_want rfl rfl rfl (oj_val (y_ldb 3 Try.isAgg3 (fe_t rfl) rfl rfl) ?_)
                                    refine tl_want rfl rfl rfl (oj_val (y_fieldAddr (td := 3) Try.underlying33 rfl rfl Try.sizeOf3 (o' := 1) rfl (fe_t rfl)) ?_)
                                    refine tl_want rfl rfl rfl (oj_val (y_ldb 2 Try.isAgg3 (fe_t rfl) rfl rfl) ?_)
                                    refine tl_want rfl rfl rfl (oj_val (y_neq (fe_t rfl) (fe_t rfl)) ?_)
                                    refine tl_step rfl (oj_val (y_pickf (fe_t rfl) (fe_t rfl)) ?_)
                                    refine tl_nil ?_
                                    refine tx_then ?_
                                    refine tr_condp (fe_t rfl) (fun hq77 => ?_) (fun hq78 => ?_)
                                    · try (first | (exfalso; omega) | (exfalso; simp_all; done))
                                      all_goals
                                        refine tr_seq ?_
                                        refine tr_region ?_
                                        refine tl_step rfl (oj_val (y_move (fe_t rfl)) ?_)
                                        refine tl_step rfl (oj_val (y_eq (fe_t rfl) fe_c) ?_)
                                        refine tl_step rfl (oj_val (y_move (fe_t rfl)) ?_)
                                        refine tl_splitp (d := 88) rfl (fun hq79 => ?_) (fun hq80 => ?_)
                                        · try (first | (exfalso; omega) | (exfalso; simp_all; done))
                                          all_goals
                                            refine tl_want rfl rfl rfl (oj_val (y_ldbA 0 Try.isAgg33 Try.sizeOf33 (fe_t rfl) rfl rfl rfl) ?_)
                                            refine tl_want rfl rfl rfl (oj_val (y_build (is := []) (vs := []) (cs := [.int .i64 0, .int .i64 0, .slice none 0 0]) rfl fel_nil (by kernel_rfl)) ?_)
                                            refine tl_want rfl rfl rfl (oj_callv Try.call21 fe_f (fel_cons (fe_t rfl) (fel_cons (fe_t rfl) fel_nil)) (fun w' hS => of_bel (same_any 0 0 none none 0 0 0 [] w' Rd.nil Rd.nil rfl (by omega))) ?_)
                                            refine tl_step rfl (oj_val (y_pickt (fe_t rfl) (fe_t rfl)) ?_)
                                            refine tl_step rfl (oj_val (y_assign (fe_t rfl)) ?_)
                                            refine tl_nil ?_
                                            refine tx_then ?_
                                            refine tr_ret ?_
                                            refine tx_then_ret ?_
                                            refine tx_ret (res1 Try.results4 (rok_t rfl)) (fun w' hS => ?_)
                                            exact ⟨ret_bool (by first | rfl | (simp; done)), hS.pick [] _ rfl (by decide)⟩
                                        · try (first | (exfalso; omega) | (exfalso; simp_all; done))
                                          all_goals
                                            refine tl_skip rfl rfl rfl rfl ?_
                                            refine tl_skip rfl rfl rfl rfl ?_
                                            refine tl_skip rfl rfl rfl rfl ?_
                                            refine tl_step rfl (oj_val (y_pickf (fe_t rfl) fe_c) ?_)
                                            refine tl_step rfl (oj_val (y_assign (fe_t rfl)) ?_)
                                            refine tl_nil ?_
                                            refine tx_then ?_
                                            refine tr_ret ?_
                                            refine tx_then_ret ?_
                                            refine tx_ret (res1 Try.results4 (rok_t rfl)) (fun w' hS => ?_)
                                            exact ⟨ret_bool (by first | rfl | (simp; done)), hS.pick [] _ rfl (by decide)⟩
                                    · exfalso; first | omega | (simp_all; done)
                · exfalso; omega

set_option maxRecDepth 100000 in
set_option maxHeartbeats 4000000 in
theorem walk_ok_bad (rows width r1 x1 r2 x2 : Int) (A B : Option Addr) (n m c d : Nat) (za zb : List Int) (w : World) (hr : Rd w A (za.map (.int .i64))) (hr' : Rd w B (zb.map (.int .i64))) (hn : za.length = n) (hm : zb.length = m) (ln : n ≤ 140737488355328) (lm : m ≤ 140737488355328) (hd : dims rows width = true) (hbad : vright r1 x1 za = false ∨ (vright r1 x1 za = true ∧ vright r2 x2 zb = false) ∨ (vright r1 x1 za = true ∧ vright r2 x2 zb = true ∧ r1 ≠ r2) ∨ (vright r1 x1 za = true ∧ vright r2 x2 zb = true ∧ r1 = r2 ∧ x1 ≠ x2)) :
    Calls Try.prog 4 #[(.int .i64 rows), (.int .i64 width), .agg #[(.int .i64 r1), (.int .i64 x1), .slice A n c], .agg #[(.int .i64 r2), (.int .i64 x2), .slice B m d]] w fun e w' => e = .returned (.bool true) ∧ E.St w w' [] := by
  obtain ⟨⟨d0, d1⟩, d2, d3⟩ := dims_iff.1 hd
  have hp := dims_prod hd
  obtain ⟨k0, hk0⟩ : ∃ k0 : Nat, rows * width = k0 := ⟨(rows * width).toNat, by omega⟩
  rcases hbad with va | ⟨va, vb⟩ | ⟨va, vb, hne⟩ | ⟨va, vb, heq, hne⟩
  all_goals
    refine calls_tr Try.func4 Try.ntmps4 rfl rfl (St.refl _) ?_
    refine tr_seq ?_
    refine tr_region ?_
    refine tl_step rfl (oj_box (fe_t rfl) (fun b1 => ?_))
    refine tl_step rfl (oj_box (fe_t rfl) (fun b2 => ?_))
    refine tl_step rfl (oj_val (y_assign fe_c) ?_)
    refine tl_nil ?_
    refine tx_then ?_
    refine tr_seq ?_
    refine tr_region ?_
    refine tl_step rfl (oj_val (y_move (fe_t rfl)) ?_)
    refine tl_step rfl (oj_val (y_move (fe_t rfl)) ?_)
    refine tl_step rfl (oj_call Try.call19 fe_f (fel_cons (fe_t rfl) (fel_cons (fe_t rfl) fel_nil)) (fun w' hS => snew_ok rows width k0 w' hd hk0) (fun g0 hg0 => ?_))
    refine tl_step rfl (oj_val (y_move (fe_t rfl)) ?_)
    refine tl_step rfl (oj_val (y_extract (fe_t rfl) rfl) ?_)
    refine tl_step rfl (oj_val (y_extract (fe_t rfl) rfl) ?_)
    refine tl_step rfl (oj_alloc Try.zeroValue33 (fun b3 => ?_))
    refine tl_step rfl (oj_storeW 0 Try.sizeOf33 (fe_t rfl) (fe_t rfl) rfl rfl rfl rfl rfl (?_))
    refine tl_step rfl (oj_val (y_assign (fe_t rfl)) ?_)
    refine tl_nil ?_
    refine tx_then ?_
    refine tr_seq ?_
    refine tr_region ?_
    refine tl_step rfl (oj_val (y_ldbA 3 Try.isAgg33 Try.sizeOf33 (fe_t rfl) rfl rfl rfl) ?_)
    refine tl_step rfl (oj_val (y_ldbA 2 Try.isAgg33 Try.sizeOf33 (fe_t rfl) rfl rfl rfl) ?_)
    refine tl_step rfl (oj_callv Try.call20 fe_f (fel_cons (fe_t rfl) (fel_cons (fe_t rfl) fel_nil)) (fun w' hS => sjoin_bad r1 x1 r2 x2 A B n m c d za zb w' (Rd.below hr hS.below) (Rd.below hr' hS.below) hn hm ln lm (by first | exact .inl va | exact .inr (.inl ⟨va, vb⟩) | exact .inr (.inr (.inl ⟨va, vb, hne⟩)) | exact .inr (.inr (.inr ⟨va, vb, heq, hne⟩)))) ?_)
    refine tl_step rfl (oj_val (y_move (fe_t rfl)) ?_)
    refine tl_step rfl (oj_val (y_extract (fe_t rfl) rfl) ?_)
    refine tl_step rfl (oj_val (y_extract (fe_t rfl) rfl) ?_)
    refine tl_step rfl (oj_alloc Try.zeroValue33 (fun b4 => ?_))
    refine tl_step rfl (oj_storeW 0 Try.sizeOf33 (fe_t rfl) (fe_t rfl) rfl rfl rfl rfl rfl (?_))
    refine tl_step rfl (oj_val (y_assign (fe_t rfl)) ?_)
    refine tl_nil ?_
    refine tx_then ?_
    refine tr_seq ?_
    refine tr_seq ?_
    refine tr_region ?_
    refine tl_step rfl (oj_val (y_move (fe_t rfl)) ?_)
    refine tl_step rfl (oj_val (y_lss (fe_t rfl) fe_c) ?_)
    refine tl_step rfl (oj_val (y_move (fe_t rfl)) ?_)
    refine tl_splitp (d := 30) rfl (fun hq1 => ?_) (fun hq2 => ?_)
    · try (first | (exfalso; omega) | (exfalso; simp_all; done))
      all_goals
        refine tl_skip rfl rfl rfl rfl ?_
        refine tl_skip rfl rfl rfl rfl ?_
        refine tl_step rfl (oj_val (y_pickt (fe_t rfl) fe_c) ?_)
        refine tl_step rfl (oj_val (y_move (fe_t rfl)) ?_)
        refine tl_skip rfl rfl rfl rfl ?_
        refine tl_skip rfl rfl rfl rfl ?_
        refine tl_step rfl (oj_val (y_pickt (fe_t rfl) fe_c) ?_)
        refine tl_step rfl (oj_val (y_move (fe_t rfl)) ?_)
        refine tl_skip rfl rfl rfl rfl ?_
        refine tl_skip rfl rfl rfl rfl ?_
        refine tl_step rfl (oj_val (y_pickt (fe_t rfl) fe_c) ?_)
        refine tl_nil ?_
        refine tx_then ?_
        exfalso; omega
    · try (first | (exfalso; omega) | (exfalso; simp_all; done))
      all_goals
        refine tl_want rfl rfl rfl (oj_val (y_move (fe_t rfl)) ?_)
        refine tl_want rfl rfl rfl (oj_val (y_gtr (fe_t rfl) fe_c) ?_)
        refine tl_step rfl (oj_val (y_pickf (fe_t rfl) (fe_t rfl)) ?_)
        refine tl_step rfl (oj_val (y_move (fe_t rfl)) ?_)
        refine tl_splitp (d := 34) rfl (fun hq3 => ?_) (fun hq4 => ?_)
        · try (first | (exfalso; omega) | (exfalso; simp_all; done))
          all_goals
            refine tl_skip rfl rfl rfl rfl ?_
            refine tl_skip rfl rfl rfl rfl ?_
            refine tl_step rfl (oj_val (y_pickt (fe_t rfl) fe_c) ?_)
            refine tl_step rfl (oj_val (y_move (fe_t rfl)) ?_)
            refine tl_skip rfl rfl rfl rfl ?_
            refine tl_skip rfl rfl rfl rfl ?_
            refine tl_step rfl (oj_val (y_pickt (fe_t rfl) fe_c) ?_)
            refine tl_nil ?_
            refine tx_then ?_
            exfalso; omega
        · try (first | (exfalso; omega) | (exfalso; simp_all; done))
          all_goals
            refine tl_want rfl rfl rfl (oj_val (y_move (fe_t rfl)) ?_)
            refine tl_want rfl rfl rfl (oj_val (y_lss (fe_t rfl) fe_c) ?_)
            refine tl_step rfl (oj_val (y_pickf (fe_t rfl) (fe_t rfl)) ?_)
            refine tl_step rfl (oj_val (y_move (fe_t rfl)) ?_)
            refine tl_splitp (d := 38) rfl (fun hq5 => ?_) (fun hq6 => ?_)
            · try (first | (exfalso; omega) | (exfalso; simp_all; done))
              all_goals
                refine tl_skip rfl rfl rfl rfl ?_
                refine tl_skip rfl rfl rfl rfl ?_
                refine tl_step rfl (oj_val (y_pickt (fe_t rfl) fe_c) ?_)
                refine tl_nil ?_
                refine tx_then ?_
                exfalso; omega
            · try (first | (exfalso; omega) | (exfalso; simp_all; done))
              all_goals
                refine tl_want rfl rfl rfl (oj_val (y_move (fe_t rfl)) ?_)
                refine tl_want rfl rfl rfl (oj_val (y_gtr (fe_t rfl) fe_c) ?_)
                refine tl_step rfl (oj_val (y_pickf (fe_t rfl) (fe_t rfl)) ?_)
                refine tl_nil ?_
                refine tx_then ?_
                refine tr_condp (fe_t rfl) (fun hq7 => ?_) (fun hq8 => ?_)
                · exfalso; omega
                · try (first | (exfalso; omega) | (exfalso; simp_all; done))
                  all_goals
                    refine tr_seq ?_
                    refine tr_draw (sel _ [0, 1, 2, 3, 4]) (fun w h => h.sel _ rfl (by decide)) rfl ?_
                    refine ta_float (i := 0) rfl (by kernel_rfl) (wants_none rfl) (yq_of (y_move (fe_t rfl))) ?_
                    refine ta_float (i := 1) rfl (by kernel_rfl) (wants_none rfl) (yq_of (y_neq (fe_t rfl) fe_c)) ?_
                    refine ta_float (i := 2) rfl (by kernel_rfl) (wants_none rfl) (yq_of (y_move (fe_t rfl))) ?_
                    refine ta_splitp (d := 52) rfl (fun hq9 => ?_) (fun hq10 => ?_)
                    · try (first | (exfalso; omega) | (exfalso; simp_all; done))
                      all_goals
                        refine ta_skip (i := 3) rfl (by kernel_rfl) (wants_f rfl rfl rfl rfl) ?_
                        refine ta_skip (i := 4) rfl (by kernel_rfl) (wants_f rfl rfl rfl rfl) ?_
                        refine ta_skip (i := 5) rfl (by kernel_rfl) (wants_f rfl rfl rfl rfl) ?_
                        refine ta_skip (i := 6) rfl (by kernel_rfl) (wants_f rfl rfl rfl rfl) ?_
                        refine ta_skip (i := 7) rfl (by kernel_rfl) (wants_f rfl rfl rfl rfl) ?_
                        refine ta_skip (i := 8) rfl (by kernel_rfl) (wants_f rfl rfl rfl rfl) ?_
                        refine ta_skip (i := 9) rfl (by kernel_rfl) (wants_f rfl rfl rfl rfl) ?_
                        refine ta_skip (i := 10) rfl (by kernel_rfl) (wants_f rfl rfl rfl rfl) ?_
                        refine ta_skip (i := 11) rfl (by kernel_rfl) (wants_f rfl rfl rfl rfl) ?_
                        refine ta_skip (i := 12) rfl (by kernel_rfl) (wants_f rfl rfl rfl rfl) ?_
                        refine ta_float (i := 13) rfl (by kernel_rfl) (wants_none rfl) (yq_of (y_pickt (fe_t rfl) fe_c)) ?_
                        refine ta_done (by kernel_rfl) ?_
                        refine tx_then ?_
                        exfalso; omega
                    · try (first | (exfalso; omega) | (exfalso; simp_all; done))
                      all_goals
                        refine ta_float (i := 3) rfl (by kernel_rfl) (wants_t rfl rfl rfl) (yq_of (y_ldbA 1 Try.isAgg33 Try.sizeOf33 (fe_t rfl) rfl rfl rfl)) ?_
                        refine ta_float (i := 4) rfl (by kernel_rfl) (wants_t rfl rfl rfl) (yq_of (y_move (fe_t rfl))) ?_
                        refine ta_float (i := 5) rfl (by kernel_rfl) (wants_t rfl rfl rfl) (yq_of (y_move (fe_t rfl))) ?_
                        refine ta_float (i := 6) rfl (by kernel_rfl) (wants_t rfl rfl rfl) (yq_of (y_move (fe_t rfl))) ?_
                        refine ta_float (i := 7) rfl (by kernel_rfl) (wants_t rfl rfl rfl) (yq_of (y_move (fe_t rfl))) ?_
                        refine ta_float (i := 8) rfl (by kernel_rfl) (wants_t rfl rfl rfl) (yq_of (y_mul (fe_t rfl) (fe_t rfl) (by omega))) ?_
                        refine ta_one (i := 9) rfl (by kernel_rfl) (wants_t rfl rfl rfl) (oj_make (n := k0) (z := (.int .i64 0)) (bytes := 8) Try.underlying31 (by kernel_rfl) (fe_i hk0 rfl) (fe_i hk0 rfl) rfl ⟨by omega, by decide⟩ (fun g => ⟨fun w h => h.pick [1, 2, 3, 4, 5] _ rfl (by decide), ?_⟩))
                        refine ta_float (i := 10) rfl (by kernel_rfl) (wants_t rfl rfl rfl) (yq_of ((fun {u0 u1 u2} hx hb => y_build (is := [0, 1, 2]) (vs := [u0, u1, u2]) (cs := [u0, u1, u2]) rfl hx hb) (fel_cons (fe_t rfl) (fel_cons (fe_t rfl) (fel_cons (fe_t rfl) fel_nil))) (by kernel_rfl))) ?_
                        refine ta_one (i := 11) rfl (by kernel_rfl) (wants_t rfl rfl rfl) (oj_callv Try.call21 fe_f (fel_cons (fe_t rfl) (fel_cons (fe_t rfl) fel_nil)) (fun w' hS => of_bel (same_any rows width _ _ k0 k0 k0 (List.replicate k0 0) w' (by simpa [RdI] using (OwnV.rd (hS.holds 3 _ rfl)).2.2) (by simpa [RdI] using (OwnV.rd (hS.holds 0 _ rfl)).2.2) (by simp) (by omega))) (⟨fun w h => h.pick [1, 2, 3, 4, 5] _ rfl (by decide), ?_⟩))
                        refine ta_float (i := 12) rfl (by kernel_rfl) (wants_t rfl rfl rfl) (yq_of (y_not (fe_t rfl))) ?_
                        refine ta_float (i := 13) rfl (by kernel_rfl) (wants_none rfl) (yq_of (y_pickf (fe_t rfl) (fe_t rfl))) ?_
                        refine ta_done (by kernel_rfl) ?_
                        refine tx_then ?_
                        refine tr_condf (fe_t rfl) ?_
                        refine tr_skip ?_
                        refine tx_then ?_
                        refine tr_seq ?_
                        refine tr_seq ?_
                        refine tr_region ?_
                        refine tl_step rfl (oj_val (y_ldbA 5 Try.isAgg33 Try.sizeOf33 (fe_t rfl) rfl rfl rfl) ?_)
                        refine tl_step rfl (oj_callv Try.call22 fe_f (fel_cons (fe_t rfl) fel_nil) (fun w' hS => of_bel (vright_any _ _ A n c za w' (Rd.below hr hS.below) hn (by omega))) ?_)
                        refine tl_step rfl (oj_val (y_not (fe_t rfl)) ?_)
                        refine tl_step rfl (oj_val (y_move (fe_t rfl)) ?_)
                        refine tl_split (d := 67) rfl (fun hq11 => ?_) (fun hq12 => ?_)
                        · try (first | (exfalso; omega) | (exfalso; simp_all; done))
                          all_goals
                            refine tl_skip rfl rfl rfl rfl ?_
                            refine tl_skip rfl rfl rfl rfl ?_
                            refine tl_skip rfl rfl rfl rfl ?_
                            refine tl_step rfl (oj_val (y_pickt (fe_t rfl) fe_c) ?_)
                            refine tl_step rfl (oj_val (y_move (fe_t rfl)) ?_)
                            refine tl_skip rfl rfl rfl rfl ?_
                            refine tl_skip rfl rfl rfl rfl ?_
                            refine tl_skip rfl rfl rfl rfl ?_
                            refine tl_skip rfl rfl rfl rfl ?_
                            refine tl_skip rfl rfl rfl rfl ?_
                            refine tl_step rfl (oj_val (y_pickt (fe_t rfl) fe_c) ?_)
                            refine tl_step rfl (oj_val (y_move (fe_t rfl)) ?_)
                            refine tl_skip rfl rfl rfl rfl ?_
                            refine tl_skip rfl rfl rfl rfl ?_
                            refine tl_skip rfl rfl rfl rfl ?_
                            refine tl_skip rfl rfl rfl rfl ?_
                            refine tl_skip rfl rfl rfl rfl ?_
                            refine tl_step rfl (oj_val (y_pickt (fe_t rfl) fe_c) ?_)
                            refine tl_nil ?_
                            refine tx_then ?_
                            refine tr_condt (fe_t rfl) ?_
                            refine tr_seq ?_
                            refine tr_region ?_
                            refine tl_step rfl (oj_val (y_move (fe_t rfl)) ?_)
                            refine tl_step rfl (oj_val (y_eq (fe_t rfl) fe_c) ?_)
                            refine tl_step rfl (oj_val (y_move (fe_t rfl)) ?_)
                            refine tl_splitp (d := 88) rfl (fun hq13 => ?_) (fun hq14 => ?_)
                            · try (first | (exfalso; omega) | (exfalso; simp_all; done))
                              all_goals
                                refine tl_want rfl rfl rfl (oj_val (y_ldbA 1 Try.isAgg33 Try.sizeOf33 (fe_t rfl) rfl rfl rfl) ?_)
                                refine tl_want rfl rfl rfl (oj_val (y_build (is := []) (vs := []) (cs := [.int .i64 0, .int .i64 0, .slice none 0 0]) rfl fel_nil (by kernel_rfl)) ?_)
                                refine tl_want rfl rfl rfl (oj_callv Try.call21 fe_f (fel_cons (fe_t rfl) (fel_cons (fe_t rfl) fel_nil)) (fun w' hS => of_bel (same_any 0 0 none none 0 0 0 [] w' Rd.nil Rd.nil rfl (by omega))) ?_)
                                refine tl_step rfl (oj_val (y_pickt (fe_t rfl) (fe_t rfl)) ?_)
                                refine tl_step rfl (oj_val (y_assign (fe_t rfl)) ?_)
                                refine tl_nil ?_
                                refine tx_then ?_
                                refine tr_ret ?_
                                refine tx_then_ret ?_
                                refine tx_ret (res1 Try.results4 (rok_t rfl)) (fun w' hS => ?_)
                                exact ⟨ret_bool (by first | rfl | (simp; done)), hS.pick [] _ rfl (by decide)⟩
                            · try (first | (exfalso; omega) | (exfalso; simp_all; done))
                              all_goals
                                refine tl_skip rfl rfl rfl rfl ?_
                                refine tl_skip rfl rfl rfl rfl ?_
                                refine tl_skip rfl rfl rfl rfl ?_
                                refine tl_step rfl (oj_val (y_pickf (fe_t rfl) fe_c) ?_)
                                refine tl_step rfl (oj_val (y_assign (fe_t rfl)) ?_)
                                refine tl_nil ?_
                                refine tx_then ?_
                                refine tr_ret ?_
                                refine tx_then_ret ?_
                                refine tx_ret (res1 Try.results4 (rok_t rfl)) (fun w' hS => ?_)
                                exact ⟨ret_bool (by first | rfl | (simp; done)), hS.pick [] _ rfl (by decide)⟩
                        · try (first | (exfalso; omega) | (exfalso; simp_all; done))
                          all_goals
                            refine tl_want rfl rfl rfl (oj_val (y_ldbA 4 Try.isAgg33 Try.sizeOf33 (fe_t rfl) rfl rfl rfl) ?_)
                            refine tl_want rfl rfl rfl (oj_callv Try.call22 fe_f (fel_cons (fe_t rfl) fel_nil) (fun w' hS => of_bel (vright_any _ _ B m d zb w' (Rd.below hr' hS.below) hm (by omega))) ?_)
                            refine tl_want rfl rfl rfl (oj_val (y_not (fe_t rfl)) ?_)
                            refine tl_step rfl (oj_val (y_pickf (fe_t rfl) (fe_t rfl)) ?_)
                            refine tl_step rfl (oj_val (y_move (fe_t rfl)) ?_)
                            refine tl_split (d := 72) rfl (fun hq15 => ?_) (fun hq16 => ?_)
                            · try (first | (exfalso; omega) | (exfalso; simp_all; done))
                              all_goals
                                refine tl_skip rfl rfl rfl rfl ?_
                                refine tl_skip rfl rfl rfl rfl ?_
                                refine tl_skip rfl rfl rfl rfl ?_
                                refine tl_skip rfl rfl rfl rfl ?_
                                refine tl_skip rfl rfl rfl rfl ?_
                                refine tl_step rfl (oj_val (y_pickt (fe_t rfl) fe_c) ?_)
                                refine tl_step rfl (oj_val (y_move (fe_t rfl)) ?_)
                                refine tl_skip rfl rfl rfl rfl ?_
                                refine tl_skip rfl rfl rfl rfl ?_
                                refine tl_skip rfl rfl rfl rfl ?_
                                refine tl_skip rfl rfl rfl rfl ?_
                                refine tl_skip rfl rfl rfl rfl ?_
                                refine tl_step rfl (oj_val (y_pickt (fe_t rfl) fe_c) ?_)
                                refine tl_nil ?_
                                refine tx_then ?_
                                refine tr_condt (fe_t rfl) ?_
                                refine tr_seq ?_
                                refine tr_region ?_
                                refine tl_step rfl (oj_val (y_move (fe_t rfl)) ?_)
                                refine tl_step rfl (oj_val (y_eq (fe_t rfl) fe_c) ?_)
                                refine tl_step rfl (oj_val (y_move (fe_t rfl)) ?_)
                                refine tl_splitp (d := 88) rfl (fun hq17 => ?_) (fun hq18 => ?_)
                                · try (first | (exfalso; omega) | (exfalso; simp_all; done))
                                  all_goals
                                    refine tl_want rfl rfl rfl (oj_val (y_ldbA 1 Try.isAgg33 Try.sizeOf33 (fe_t rfl) rfl rfl rfl) ?_)
                                    refine tl_want rfl rfl rfl (oj_val (y_build (is := []) (vs := []) (cs := [.int .i64 0, .int .i64 0, .slice none 0 0]) rfl fel_nil (by kernel_rfl)) ?_)
                                    refine tl_want rfl rfl rfl (oj_callv Try.call21 fe_f (fel_cons (fe_t rfl) (fel_cons (fe_t rfl) fel_nil)) (fun w' hS => of_bel (same_any 0 0 none none 0 0 0 [] w' Rd.nil Rd.nil rfl (by omega))) ?_)
                                    refine tl_step rfl (oj_val (y_pickt (fe_t rfl) (fe_t rfl)) ?_)
                                    refine tl_step rfl (oj_val (y_assign (fe_t rfl)) ?_)
                                    refine tl_nil ?_
                                    refine tx_then ?_
                                    refine tr_ret ?_
                                    refine tx_then_ret ?_
                                    refine tx_ret (res1 Try.results4 (rok_t rfl)) (fun w' hS => ?_)
                                    exact ⟨ret_bool (by first | rfl | (simp; done)), hS.pick [] _ rfl (by decide)⟩
                                · try (first | (exfalso; omega) | (exfalso; simp_all; done))
                                  all_goals
                                    refine tl_skip rfl rfl rfl rfl ?_
                                    refine tl_skip rfl rfl rfl rfl ?_
                                    refine tl_skip rfl rfl rfl rfl ?_
                                    refine tl_step rfl (oj_val (y_pickf (fe_t rfl) fe_c) ?_)
                                    refine tl_step rfl (oj_val (y_assign (fe_t rfl)) ?_)
                                    refine tl_nil ?_
                                    refine tx_then ?_
                                    refine tr_ret ?_
                                    refine tx_then_ret ?_
                                    refine tx_ret (res1 Try.results4 (rok_t rfl)) (fun w' hS => ?_)
                                    exact ⟨ret_bool (by first | rfl | (simp; done)), hS.pick [] _ rfl (by decide)⟩
                            · try (first | (exfalso; omega) | (exfalso; simp_all; done))
                              all_goals
                                refine tl_want rfl rfl rfl (oj_val (y_fieldAddr (td := 3) Try.underlying33 rfl rfl Try.sizeOf3 (o' := 0) rfl (fe_t rfl)) ?_)
                                refine tl_want rfl rfl rfl (oj_val (y_ldb 5 Try.isAgg3 (fe_t rfl) rfl rfl) ?_)
                                refine tl_want rfl rfl rfl (oj_val (y_fieldAddr (td := 3) Try.underlying33 rfl rfl Try.sizeOf3 (o' := 0) rfl (fe_t rfl)) ?_)
                                refine tl_want rfl rfl rfl (oj_val (y_ldb 4 Try.isAgg3 (fe_t rfl) rfl rfl) ?_)
                                refine tl_want rfl rfl rfl (oj_val (y_neq (fe_t rfl) (fe_t rfl)) ?_)
                                refine tl_step rfl (oj_val (y_pickf (fe_t rfl) (fe_t rfl)) ?_)
                                refine tl_step rfl (oj_val (y_move (fe_t rfl)) ?_)
                                refine tl_splitp (d := 79) rfl (fun hq19 => ?_) (fun hq20 => ?_)
                                · try (first | (exfalso; omega) | (exfalso; simp_all; done))
                                  all_goals
                                    refine tl_skip rfl rfl rfl rfl ?_
                                    refine tl_skip rfl rfl rfl rfl ?_
                                    refine tl_skip rfl rfl rfl rfl ?_
                                    refine tl_skip rfl rfl rfl rfl ?_
                                    refine tl_skip rfl rfl rfl rfl ?_
                                    refine tl_step rfl (oj_val (y_pickt (fe_t rfl) fe_c) ?_)
                                    refine tl_nil ?_
                                    refine tx_then ?_
                                    refine tr_condt (fe_t rfl) ?_
                                    refine tr_seq ?_
                                    refine tr_region ?_
                                    refine tl_step rfl (oj_val (y_move (fe_t rfl)) ?_)
                                    refine tl_step rfl (oj_val (y_eq (fe_t rfl) fe_c) ?_)
                                    refine tl_step rfl (oj_val (y_move (fe_t rfl)) ?_)
                                    refine tl_splitp (d := 88) rfl (fun hq21 => ?_) (fun hq22 => ?_)
                                    · try (first | (exfalso; omega) | (exfalso; simp_all; done))
                                      all_goals
                                        refine tl_want rfl rfl rfl (oj_val (y_ldbA 1 Try.isAgg33 Try.sizeOf33 (fe_t rfl) rfl rfl rfl) ?_)
                                        refine tl_want rfl rfl rfl (oj_val (y_build (is := []) (vs := []) (cs := [.int .i64 0, .int .i64 0, .slice none 0 0]) rfl fel_nil (by kernel_rfl)) ?_)
                                        refine tl_want rfl rfl rfl (oj_callv Try.call21 fe_f (fel_cons (fe_t rfl) (fel_cons (fe_t rfl) fel_nil)) (fun w' hS => of_bel (same_any 0 0 none none 0 0 0 [] w' Rd.nil Rd.nil rfl (by omega))) ?_)
                                        refine tl_step rfl (oj_val (y_pickt (fe_t rfl) (fe_t rfl)) ?_)
                                        refine tl_step rfl (oj_val (y_assign (fe_t rfl)) ?_)
                                        refine tl_nil ?_
                                        refine tx_then ?_
                                        refine tr_ret ?_
                                        refine tx_then_ret ?_
                                        refine tx_ret (res1 Try.results4 (rok_t rfl)) (fun w' hS => ?_)
                                        exact ⟨ret_bool (by first | rfl | (simp; done)), hS.pick [] _ rfl (by decide)⟩
                                    · try (first | (exfalso; omega) | (exfalso; simp_all; done))
                                      all_goals
                                        refine tl_skip rfl rfl rfl rfl ?_
                                        refine tl_skip rfl rfl rfl rfl ?_
                                        refine tl_skip rfl rfl rfl rfl ?_
                                        refine tl_step rfl (oj_val (y_pickf (fe_t rfl) fe_c) ?_)
                                        refine tl_step rfl (oj_val (y_assign (fe_t rfl)) ?_)
                                        refine tl_nil ?_
                                        refine tx_then ?_
                                        refine tr_ret ?_
                                        refine tx_then_ret ?_
                                        refine tx_ret (res1 Try.results4 (rok_t rfl)) (fun w' hS => ?_)
                                        exact ⟨ret_bool (by first | rfl | (simp; done)), hS.pick [] _ rfl (by decide)⟩
                                · try (first | (exfalso; omega) | (exfalso; simp_all; done))
                                  all_goals
                                    refine tl_want rfl rfl rfl (oj_val (y_fieldAddr (td := 3) Try.underlying33 rfl rfl Try.sizeOf3 (o' := 1) rfl (fe_t rfl)) ?_)
                                    refine tl_want rfl rfl rfl (oj_val (y_ldb 5 Try.isAgg3 (fe_t rfl) rfl rfl) ?_)
                                    refine tl_want rfl rfl rfl (oj_val (y_fieldAddr (td := 3) Try.underlying33 rfl rfl Try.sizeOf3 (o' := 1) rfl (fe_t rfl)) ?_)
                                    refine tl_want rfl rfl rfl (oj_val (y_ldb 4 Try.isAgg3 (fe_t rfl) rfl rfl) ?_)
                                    refine tl_want rfl rfl rfl (oj_val (y_neq (fe_t rfl) (fe_t rfl)) ?_)
                                    refine tl_step rfl (oj_val (y_pickf (fe_t rfl) (fe_t rfl)) ?_)
                                    refine tl_nil ?_
                                    refine tx_then ?_
                                    refine tr_condp (fe_t rfl) (fun hq23 => ?_) (fun hq24 => ?_)
                                    · try (first | (exfalso; omega) | (exfalso; simp_all; done))
                                      all_goals
                                        refine tr_seq ?_
                                        refine tr_region ?_
                                        refine tl_step rfl (oj_val (y_move (fe_t rfl)) ?_)
                                        refine tl_step rfl (oj_val (y_eq (fe_t rfl) fe_c) ?_)
                                        refine tl_step rfl (oj_val (y_move (fe_t rfl)) ?_)
                                        refine tl_splitp (d := 88) rfl (fun hq25 => ?_) (fun hq26 => ?_)
                                        · try (first | (exfalso; omega) | (exfalso; simp_all; done))
                                          all_goals
                                            refine tl_want rfl rfl rfl (oj_val (y_ldbA 1 Try.isAgg33 Try.sizeOf33 (fe_t rfl) rfl rfl rfl) ?_)
                                            refine tl_want rfl rfl rfl (oj_val (y_build (is := []) (vs := []) (cs := [.int .i64 0, .int .i64 0, .slice none 0 0]) rfl fel_nil (by kernel_rfl)) ?_)
                                            refine tl_want rfl rfl rfl (oj_callv Try.call21 fe_f (fel_cons (fe_t rfl) (fel_cons (fe_t rfl) fel_nil)) (fun w' hS => of_bel (same_any 0 0 none none 0 0 0 [] w' Rd.nil Rd.nil rfl (by omega))) ?_)
                                            refine tl_step rfl (oj_val (y_pickt (fe_t rfl) (fe_t rfl)) ?_)
                                            refine tl_step rfl (oj_val (y_assign (fe_t rfl)) ?_)
                                            refine tl_nil ?_
                                            refine tx_then ?_
                                            refine tr_ret ?_
                                            refine tx_then_ret ?_
                                            refine tx_ret (res1 Try.results4 (rok_t rfl)) (fun w' hS => ?_)
                                            exact ⟨ret_bool (by first | rfl | (simp; done)), hS.pick [] _ rfl (by decide)⟩
                                        · try (first | (exfalso; omega) | (exfalso; simp_all; done))
                                          all_goals
                                            refine tl_skip rfl rfl rfl rfl ?_
                                            refine tl_skip rfl rfl rfl rfl ?_
                                            refine tl_skip rfl rfl rfl rfl ?_
                                            refine tl_step rfl (oj_val (y_pickf (fe_t rfl) fe_c) ?_)
                                            refine tl_step rfl (oj_val (y_assign (fe_t rfl)) ?_)
                                            refine tl_nil ?_
                                            refine tx_then ?_
                                            refine tr_ret ?_
                                            refine tx_then_ret ?_
                                            refine tx_ret (res1 Try.results4 (rok_t rfl)) (fun w' hS => ?_)
                                            exact ⟨ret_bool (by first | rfl | (simp; done)), hS.pick [] _ rfl (by decide)⟩
                                    · exfalso; first | omega | (simp_all; done)

end Go.Proofs.Ytdfjeoifeladfaa.SketchJoins
