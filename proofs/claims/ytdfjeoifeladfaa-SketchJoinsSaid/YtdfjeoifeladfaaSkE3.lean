/- Walks for the sketch. -/
import Derived.Test.YtdfjeoifeladfaaSkE
namespace Go.Proofs.Ytdfjeoifeladfaa.Sketch
open Go.RowKit Go.Proofs.Ytdfjeoifeladfaa.E

set_option maxRecDepth 100000 in
set_option maxHeartbeats 4000000 in
theorem sjoin_bad (r1 x1 r2 x2 : Int) (A B : Option Addr) (n m c d : Nat) (za zb : List Int) (w : World) (hr : Rd w A (za.map (.int .i64))) (hr' : Rd w B (zb.map (.int .i64))) (hn : za.length = n) (hm : zb.length = m) (ln : n ≤ 140737488355328) (lm : m ≤ 140737488355328) (hbad : vright r1 x1 za = false ∨ (vright r1 x1 za = true ∧ vright r2 x2 zb = false) ∨ (vright r1 x1 za = true ∧ vright r2 x2 zb = true ∧ r1 ≠ r2) ∨ (vright r1 x1 za = true ∧ vright r2 x2 zb = true ∧ r1 = r2 ∧ x1 ≠ x2)) :
    Calls Try.prog 20 #[.agg #[(.int .i64 r1), (.int .i64 x1), .slice A n c], .agg #[(.int .i64 r2), (.int .i64 x2), .slice B m d]] w fun e w' => e = .returned (.tuple #[.agg #[(.int .i64 0), (.int .i64 0), .slice none 0 0], (.int .i64 1)]) ∧ E.St w w' [] := by
  rcases hbad with va | ⟨va, vb⟩ | ⟨va, vb, hne⟩ | ⟨va, vb, heq, hne⟩
  all_goals
    refine calls_tr Try.func20 Try.ntmps20 rfl rfl (St.refl _) ?_
    refine tr_seq ?_
    refine tr_region ?_
    refine tl_step rfl (oj_box (fe_t rfl) (fun b1 => ?_))
    refine tl_step rfl (oj_box (fe_t rfl) (fun b2 => ?_))
    refine tl_step rfl (oj_alloc Try.zeroValue33 (fun b3 => ?_))
    refine tl_step rfl (oj_val (y_assign fe_c) ?_)
    refine tl_nil ?_
    refine tx_then ?_
    refine tr_seq ?_
    refine tr_seq ?_
    refine tr_region ?_
    refine tl_step rfl (oj_val (y_ldbA 2 Try.isAgg33 Try.sizeOf33 (fe_t rfl) rfl rfl rfl) ?_)
    refine tl_step rfl (oj_callv Try.call74 fe_f (fel_cons (fe_t rfl) fel_nil) (fun w' hS => of_bel (right_any _ _ A n c za w' (Rd.below hr hS.below) hn ln)) ?_)
    refine tl_step rfl (oj_val (y_not (fe_t rfl)) ?_)
    refine tl_step rfl (oj_val (y_move (fe_t rfl)) ?_)
    refine tl_split (d := 11) rfl (fun hq1 => ?_) (fun hq2 => ?_)
    · try (first | (exfalso; omega) | (exfalso; simp_all; done))
      all_goals
        refine tl_skip rfl rfl rfl rfl ?_
        refine tl_skip rfl rfl rfl rfl ?_
        refine tl_skip rfl rfl rfl rfl ?_
        refine tl_step rfl (oj_val (y_pickt (fe_t rfl) fe_c) ?_)
        refine tl_step rfl (oj_val (y_move (fe_t rfl)) ?_)
        refine tl_skip rfl rfl rfl rfl ?_
        refine tl_skip rfl rfl rfl rfl ?_
        refine tl_skip rfl rfl rfl rfl ?_
        refine tl_skip rfl rfl rfl rfl ?_
        refine tl_skip rfl rfl rfl rfl ?_
        refine tl_step rfl (oj_val (y_pickt (fe_t rfl) fe_c) ?_)
        refine tl_step rfl (oj_val (y_move (fe_t rfl)) ?_)
        refine tl_skip rfl rfl rfl rfl ?_
        refine tl_skip rfl rfl rfl rfl ?_
        refine tl_skip rfl rfl rfl rfl ?_
        refine tl_skip rfl rfl rfl rfl ?_
        refine tl_skip rfl rfl rfl rfl ?_
        refine tl_step rfl (oj_val (y_pickt (fe_t rfl) fe_c) ?_)
        refine tl_nil ?_
        refine tx_then ?_
        refine tr_condt (fe_t rfl) ?_
        refine tr_seq ?_
        refine tr_region ?_
        refine tl_step rfl (oj_val (y_build (is := []) (vs := []) (cs := [.int .i64 0, .int .i64 0, .slice none 0 0]) rfl fel_nil (by kernel_rfl)) ?_)
        refine tl_step rfl (oj_storeW 0 Try.sizeOf33 (fe_t rfl) (fe_t rfl) rfl rfl rfl rfl rfl (?_))
        refine tl_step rfl (oj_val (y_assign fe_c) ?_)
        refine tl_nil ?_
        refine tx_then ?_
        refine tr_ret ?_
        refine tx_then_ret ?_
        refine tx_ret (res2 Try.results20 (rok_b 0 Try.isAgg33 Try.sizeOf33 rfl rfl rfl) (rok_t rfl)) (fun w' hS => ?_)
        exact ⟨rfl, hS.pick [] _ rfl (by decide)⟩
    · try (first | (exfalso; omega) | (exfalso; simp_all; done))
      all_goals
        refine tl_want rfl rfl rfl (oj_val (y_ldbA 1 Try.isAgg33 Try.sizeOf33 (fe_t rfl) rfl rfl rfl) ?_)
        refine tl_want rfl rfl rfl (oj_callv Try.call74 fe_f (fel_cons (fe_t rfl) fel_nil) (fun w' hS => of_bel (right_any _ _ B m d zb w' (Rd.below hr' hS.below) hm lm)) ?_)
        refine tl_want rfl rfl rfl (oj_val (y_not (fe_t rfl)) ?_)
        refine tl_step rfl (oj_val (y_pickf (fe_t rfl) (fe_t rfl)) ?_)
        refine tl_step rfl (oj_val (y_move (fe_t rfl)) ?_)
        refine tl_split (d := 16) rfl (fun hq3 => ?_) (fun hq4 => ?_)
        · try (first | (exfalso; omega) | (exfalso; simp_all; done))
          all_goals
            refine tl_skip rfl rfl rfl rfl ?_
            refine tl_skip rfl rfl rfl rfl ?_
            refine tl_skip rfl rfl rfl rfl ?_
            refine tl_skip rfl rfl rfl rfl ?_
            refine tl_skip rfl rfl rfl rfl ?_
            refine tl_step rfl (oj_val (y_pickt (fe_t rfl) fe_c) ?_)
            refine tl_step rfl (oj_val (y_move (fe_t rfl)) ?_)
            refine tl_skip rfl rfl rfl rfl ?_
            refine tl_skip rfl rfl rfl rfl ?_
            refine tl_skip rfl rfl rfl rfl ?_
            refine tl_skip rfl rfl rfl rfl ?_
            refine tl_skip rfl rfl rfl rfl ?_
            refine tl_step rfl (oj_val (y_pickt (fe_t rfl) fe_c) ?_)
            refine tl_nil ?_
            refine tx_then ?_
            refine tr_condt (fe_t rfl) ?_
            refine tr_seq ?_
            refine tr_region ?_
            refine tl_step rfl (oj_val (y_build (is := []) (vs := []) (cs := [.int .i64 0, .int .i64 0, .slice none 0 0]) rfl fel_nil (by kernel_rfl)) ?_)
            refine tl_step rfl (oj_storeW 0 Try.sizeOf33 (fe_t rfl) (fe_t rfl) rfl rfl rfl rfl rfl (?_))
            refine tl_step rfl (oj_val (y_assign fe_c) ?_)
            refine tl_nil ?_
            refine tx_then ?_
            refine tr_ret ?_
            refine tx_then_ret ?_
            refine tx_ret (res2 Try.results20 (rok_b 0 Try.isAgg33 Try.sizeOf33 rfl rfl rfl) (rok_t rfl)) (fun w' hS => ?_)
            exact ⟨rfl, hS.pick [] _ rfl (by decide)⟩
        · try (first | (exfalso; omega) | (exfalso; simp_all; done))
          all_goals
            refine tl_want rfl rfl rfl (oj_val (y_fieldAddr (td := 3) Try.underlying33 rfl rfl Try.sizeOf3 (o' := 0) rfl (fe_t rfl)) ?_)
            refine tl_want rfl rfl rfl (oj_val (y_ldb 2 Try.isAgg3 (fe_t rfl) rfl rfl) ?_)
            refine tl_want rfl rfl rfl (oj_val (y_fieldAddr (td := 3) Try.underlying33 rfl rfl Try.sizeOf3 (o' := 0) rfl (fe_t rfl)) ?_)
            refine tl_want rfl rfl rfl (oj_val (y_ldb 1 Try.isAgg3 (fe_t rfl) rfl rfl) ?_)
            refine tl_want rfl rfl rfl (oj_val (y_neq (fe_t rfl) (fe_t rfl)) ?_)
            refine tl_step rfl (oj_val (y_pickf (fe_t rfl) (fe_t rfl)) ?_)
            refine tl_step rfl (oj_val (y_move (fe_t rfl)) ?_)
            refine tl_splitp (d := 23) rfl (fun hq5 => ?_) (fun hq6 => ?_)
            · try (first | (exfalso; omega) | (exfalso; simp_all; done))
              all_goals
                refine tl_skip rfl rfl rfl rfl ?_
                refine tl_skip rfl rfl rfl rfl ?_
                refine tl_skip rfl rfl rfl rfl ?_
                refine tl_skip rfl rfl rfl rfl ?_
                refine tl_skip rfl rfl rfl rfl ?_
                refine tl_step rfl (oj_val (y_pickt (fe_t rfl) fe_c) ?_)
                refine tl_nil ?_
                refine tx_then ?_
                refine tr_condt (fe_t rfl) ?_
                refine tr_seq ?_
                refine tr_region ?_
                refine tl_step rfl (oj_val (y_build (is := []) (vs := []) (cs := [.int .i64 0, .int .i64 0, .slice none 0 0]) rfl fel_nil (by kernel_rfl)) ?_)
                refine tl_step rfl (oj_storeW 0 Try.sizeOf33 (fe_t rfl) (fe_t rfl) rfl rfl rfl rfl rfl (?_))
                refine tl_step rfl (oj_val (y_assign fe_c) ?_)
                refine tl_nil ?_
                refine tx_then ?_
                refine tr_ret ?_
                refine tx_then_ret ?_
                refine tx_ret (res2 Try.results20 (rok_b 0 Try.isAgg33 Try.sizeOf33 rfl rfl rfl) (rok_t rfl)) (fun w' hS => ?_)
                exact ⟨rfl, hS.pick [] _ rfl (by decide)⟩
            · try (first | (exfalso; omega) | (exfalso; simp_all; done))
              all_goals
                refine tl_want rfl rfl rfl (oj_val (y_fieldAddr (td := 3) Try.underlying33 rfl rfl Try.sizeOf3 (o' := 1) rfl (fe_t rfl)) ?_)
                refine tl_want rfl rfl rfl (oj_val (y_ldb 2 Try.isAgg3 (fe_t rfl) rfl rfl) ?_)
                refine tl_want rfl rfl rfl (oj_val (y_fieldAddr (td := 3) Try.underlying33 rfl rfl Try.sizeOf3 (o' := 1) rfl (fe_t rfl)) ?_)
                refine tl_want rfl rfl rfl (oj_val (y_ldb 1 Try.isAgg3 (fe_t rfl) rfl rfl) ?_)
                refine tl_want rfl rfl rfl (oj_val (y_neq (fe_t rfl) (fe_t rfl)) ?_)
                refine tl_step rfl (oj_val (y_pickf (fe_t rfl) (fe_t rfl)) ?_)
                refine tl_nil ?_
                refine tx_then ?_
                refine tr_condp (fe_t rfl) (fun hq7 => ?_) (fun hq8 => ?_)
                · try (first | (exfalso; omega) | (exfalso; simp_all; done))
                  all_goals
                    refine tr_seq ?_
                    refine tr_region ?_
                    refine tl_step rfl (oj_val (y_build (is := []) (vs := []) (cs := [.int .i64 0, .int .i64 0, .slice none 0 0]) rfl fel_nil (by kernel_rfl)) ?_)
                    refine tl_step rfl (oj_storeW 0 Try.sizeOf33 (fe_t rfl) (fe_t rfl) rfl rfl rfl rfl rfl (?_))
                    refine tl_step rfl (oj_val (y_assign fe_c) ?_)
                    refine tl_nil ?_
                    refine tx_then ?_
                    refine tr_ret ?_
                    refine tx_then_ret ?_
                    refine tx_ret (res2 Try.results20 (rok_b 0 Try.isAgg33 Try.sizeOf33 rfl rfl rfl) (rok_t rfl)) (fun w' hS => ?_)
                    exact ⟨rfl, hS.pick [] _ rfl (by decide)⟩
                · exfalso; first | omega | (simp_all; done) | skip

end Go.Proofs.Ytdfjeoifeladfaa.Sketch
