/- the law SketchCounts, in eight cases. -/
import Derived.Test.YtcpdelkamckmfaaSkR
namespace Go.Proofs.Ytcpdelkamckmfaa.Frac
open Go.RowKit Go.Proofs.Ytcpdelkamckmfaa.E Go.Proofs.Ytcpdelkamckmfaa.Big

theorem y_nebb {P : Program} {N : Nat} {w0 : World} {F : Frm} {L : List Res} {d : Option Tmp} {x y : Operand} {ty t t' : TypeId} {pos : String} {af : Array Edge} {gd : Option (Nat × Bool)} {a : Bool} (hu : P.underlying t = some .bool) (hx : FE N F x (.bool a)) (hy : FE N F y (.bool a)) : Yld P N w0 F L ⟨d, .binOp .neq t x y t', ty, pos, af, gd⟩ (.bool false) := by
  have h := y_neqb (w0 := w0) (L := L) (d := d) (ty := ty) (pos := pos) (af := af) (gd := gd) (t' := t') hu hx hy
  rwa [show (!(a == a)) = false by simp] at h

theorem same_vs {x y : Int} {zs : List Int} {n : Nat} {v u : Vs} (h1 : v.n = n ∧ v.xs = cI zs) (h2 : u.n = n ∧ u.xs = cI zs) (w : World) (g1 : OwnV w 3 1 (.slice v.A v.n v.c) v.n v.xs) (g2 : OwnV w 3 1 (.slice u.A u.n u.c) u.n u.xs) (hm : n ≤ 140737488355328) (hl : zs.length = n) :
    Calls Try.prog 65 #[.agg #[(.int .i64 x), (.int .i64 y), .slice v.A v.n v.c], .agg #[(.int .i64 x), (.int .i64 y), .slice u.A u.n u.c]] w fun e w' => e = .returned (.bool true) ∧ St w w' [] := by
  have r1 := (OwnV.rd g1).2.2
  have r2 := (OwnV.rd g2).2.2
  rw [h1.2] at r1
  rw [h2.2] at r2
  exact Sketch.same_eq x y v.A u.A v.n u.n v.c u.c zs w r1 r2 (by omega) (by omega) (by omega)

set_option maxRecDepth 100000 in
set_option maxHeartbeats 4000000 in
theorem law_p_bad {r width row id nn : Int} {cf : Bool} (A : Option Addr) (n c : Nat) (zs : List Int) (w : World) (hr : Rd w A (zs.map (.int .i64))) (hn : zs.length = n) (va : Sketch.vright r width zs = false) (i0 : 0 ≤ id) (i1 : id < 18446744073709551616) (hpk : (0 ≤ row ∧ row ≤ 7) ∧ 1 ≤ width ∧ width ≤ 64) (ln : n ≤ 140737488355328) :
    Calls Try.prog 8 #[.agg #[(.int .i64 r), (.int .i64 width), .slice A n c], (.int .i64 row), .int .u64 id, (.int .i64 nn), .bool cf] w fun e w' => e = .returned (.bool true) ∧ St w w' [] := by
  refine calls_tr Try.func8 Try.ntmps8 rfl rfl (St.refl _) ?_
  refine tr_seq ?_
  refine tr_region ?_
  refine tl_step rfl (oj_box (fe_t rfl) (fun sb => ?_))
  refine tl_step rfl (oj_val (y_assign fe_c) ?_)
  refine tl_nil ?_
  refine tx_then ?_
  refine tr_seq ?_
  refine tr_region ?_
  refine tl_step rfl (oj_val (y_move (fe_t rfl)) ?_)
  refine tl_step rfl (oj_val (y_fieldAddr (td := 3) Try.underlying81 rfl rfl Try.sizeOf3 (o' := 1) rfl (fe_t rfl)) ?_)
  refine tl_step rfl (oj_val (y_ldb 0 Try.isAgg3 (fe_t rfl) rfl rfl) ?_)
  refine tl_step rfl (oj_val (y_move (fe_t rfl)) ?_)
  refine tl_step rfl (oj_callv Try.call58 fe_f (fel_cons (fe_t rfl) (fel_cons (fe_t rfl) (fel_cons (fe_t rfl) fel_nil))) (fun w' hS => place_ok w' (by omega) (by omega) (by omega) (by omega) i0 i1) ?_)
  refine tl_step rfl (oj_val (y_move (fe_t rfl)) ?_)
  refine tl_step rfl (oj_val (y_extract (fe_t rfl) rfl) ?_)
  refine tl_step rfl (oj_val (y_extract (fe_t rfl) rfl) ?_)
  refine tl_step rfl (oj_val (y_assign (fe_t rfl)) ?_)
  refine tl_step rfl (oj_val (y_assign (fe_t rfl)) ?_)
  refine tl_nil ?_
  refine tx_then ?_
  refine tr_seq ?_
  refine tr_region ?_
  refine tl_step rfl (oj_val (y_ldbA 0 Try.isAgg81 Try.sizeOf81 (fe_t rfl) rfl rfl rfl) ?_)
  refine tl_step rfl (oj_val (y_move (fe_t rfl)) ?_)
  refine tl_step rfl (oj_callv Try.call59 fe_f (fel_cons (fe_t rfl) (fel_cons (fe_t rfl) fel_nil)) (fun w' hS => count_bad A n c zs w' (Rd.below hr hS.below) hn va (by omega)) ?_)
  refine tl_step rfl (oj_val (y_move (fe_t rfl)) ?_)
  refine tl_step rfl (oj_val (y_extract (fe_t rfl) rfl) ?_)
  refine tl_step rfl (oj_val (y_extract (fe_t rfl) rfl) ?_)
  refine tl_step rfl (oj_val (y_assign (fe_t rfl)) ?_)
  refine tl_step rfl (oj_val (y_assign (fe_t rfl)) ?_)
  refine tl_nil ?_
  refine tx_then ?_
  refine tr_seq ?_
  refine tr_region ?_
  refine tl_step rfl (oj_val (y_ldbA 0 Try.isAgg81 Try.sizeOf81 (fe_t rfl) rfl rfl rfl) ?_)
  refine tl_step rfl (oj_val (y_move (fe_t rfl)) ?_)
  refine tl_step rfl (oj_val (y_move (fe_t rfl)) ?_)
  refine tl_step rfl (oj_val (y_move (fe_t rfl)) ?_)
  refine tl_step rfl (oj_callv Try.call60 fe_f (fel_cons (fe_t rfl) (fel_cons (fe_t rfl) (fel_cons (fe_t rfl) (fel_cons (fe_t rfl) fel_nil)))) (fun w' hS => Aadd_bad A n c zs w' (Rd.below hr hS.below) hn va (by omega)) ?_)
  refine tl_step rfl (oj_val (y_move (fe_t rfl)) ?_)
  refine tl_step rfl (oj_val (y_extract (fe_t rfl) rfl) ?_)
  refine tl_step rfl (oj_val (y_extract (fe_t rfl) rfl) ?_)
  refine tl_step rfl (oj_alloc Try.zeroValue81 (fun ab => ?_))
  refine tl_step rfl (oj_storeW 0 Try.sizeOf81 (fe_t rfl) (fe_t rfl) rfl rfl rfl rfl rfl (?_))
  refine tl_step rfl (oj_val (y_assign (fe_t rfl)) ?_)
  refine tl_nil ?_
  refine tx_then ?_
  refine tr_seq ?_
  refine tr_region ?_
  refine tl_step rfl (oj_val (y_ldbA 1 Try.isAgg81 Try.sizeOf81 (fe_t rfl) rfl rfl rfl) ?_)
  refine tl_step rfl (oj_val (y_move (fe_t rfl)) ?_)
  refine tl_step rfl (oj_val (y_move (fe_t rfl)) ?_)
  refine tl_step rfl (oj_val (y_move (fe_t rfl)) ?_)
  refine tl_step rfl (oj_callv Try.call61 fe_f (fel_cons (fe_t rfl) (fel_cons (fe_t rfl) (fel_cons (fe_t rfl) (fel_cons (fe_t rfl) fel_nil)))) (fun w' hS => Vadd_bad A n c zs w' (Rd.below hr hS.below) hn va (by omega)) ?_)
  refine tl_step rfl (oj_val (y_move (fe_t rfl)) ?_)
  refine tl_step rfl (oj_val (y_extract (fe_t rfl) rfl) ?_)
  refine tl_step rfl (oj_val (y_extract (fe_t rfl) rfl) ?_)
  refine tl_step rfl (oj_alloc Try.zeroValue81 (fun bb => ?_))
  refine tl_step rfl (oj_storeW 0 Try.sizeOf81 (fe_t rfl) (fe_t rfl) rfl rfl rfl rfl rfl (?_))
  refine tl_step rfl (oj_val (y_assign (fe_t rfl)) ?_)
  refine tl_nil ?_
  refine tx_then ?_
  refine tr_seq ?_
  refine tr_seq ?_
  refine tr_region ?_
  refine tl_step rfl (oj_val (y_move (fe_t rfl)) ?_)
  refine tl_step rfl (oj_val (y_lss (fe_t rfl) fe_c) ?_)
  refine tl_step rfl (oj_val (y_move (fe_t rfl)) ?_)
  refine tl_splitp (d := 51) rfl (fun hq1 => ?_) (fun hq2 => ?_)
  · try (exfalso; omega)
    all_goals
      refine tl_skip rfl rfl rfl rfl ?_
      refine tl_skip rfl rfl rfl rfl ?_
      refine tl_step rfl (oj_val (y_pickt (fe_t rfl) fe_c) ?_)
      refine tl_step rfl (oj_val (y_move (fe_t rfl)) ?_)
      refine tl_skip rfl rfl rfl rfl ?_
      refine tl_skip rfl rfl rfl rfl ?_
      refine tl_skip rfl rfl rfl rfl ?_
      refine tl_step rfl (oj_val (y_pickt (fe_t rfl) fe_c) ?_)
      refine tl_step rfl (oj_val (y_move (fe_t rfl)) ?_)
      refine tl_skip rfl rfl rfl rfl ?_
      refine tl_skip rfl rfl rfl rfl ?_
      refine tl_skip rfl rfl rfl rfl ?_
      refine tl_step rfl (oj_val (y_pickt (fe_t rfl) fe_c) ?_)
      refine tl_nil ?_
      refine tx_then ?_
      exfalso; omega
  · try (exfalso; omega)
    all_goals
      refine tl_want rfl rfl rfl (oj_val (y_move (fe_t rfl)) ?_)
      refine tl_want rfl rfl rfl (oj_val (y_gtr (fe_t rfl) fe_c) ?_)
      refine tl_step rfl (oj_val (y_pickf (fe_t rfl) (fe_t rfl)) ?_)
      refine tl_step rfl (oj_val (y_move (fe_t rfl)) ?_)
      refine tl_splitp (d := 55) rfl (fun hq3 => ?_) (fun hq4 => ?_)
      · try (exfalso; omega)
        all_goals
          refine tl_skip rfl rfl rfl rfl ?_
          refine tl_skip rfl rfl rfl rfl ?_
          refine tl_skip rfl rfl rfl rfl ?_
          refine tl_step rfl (oj_val (y_pickt (fe_t rfl) fe_c) ?_)
          refine tl_step rfl (oj_val (y_move (fe_t rfl)) ?_)
          refine tl_skip rfl rfl rfl rfl ?_
          refine tl_skip rfl rfl rfl rfl ?_
          refine tl_skip rfl rfl rfl rfl ?_
          refine tl_step rfl (oj_val (y_pickt (fe_t rfl) fe_c) ?_)
          refine tl_nil ?_
          refine tx_then ?_
          exfalso; omega
      · try (exfalso; omega)
        all_goals
          refine tl_want rfl rfl rfl (oj_val (y_fieldAddr (td := 3) Try.underlying81 rfl rfl Try.sizeOf3 (o' := 1) rfl (fe_t rfl)) ?_)
          refine tl_want rfl rfl rfl (oj_val (y_ldb 2 Try.isAgg3 (fe_t rfl) rfl rfl) ?_)
          refine tl_want rfl rfl rfl (oj_val (y_lss (fe_t rfl) fe_c) ?_)
          refine tl_step rfl (oj_val (y_pickf (fe_t rfl) (fe_t rfl)) ?_)
          refine tl_step rfl (oj_val (y_move (fe_t rfl)) ?_)
          refine tl_splitp (d := 60) rfl (fun hq5 => ?_) (fun hq6 => ?_)
          · try (exfalso; omega)
            all_goals
              refine tl_skip rfl rfl rfl rfl ?_
              refine tl_skip rfl rfl rfl rfl ?_
              refine tl_skip rfl rfl rfl rfl ?_
              refine tl_step rfl (oj_val (y_pickt (fe_t rfl) fe_c) ?_)
              refine tl_nil ?_
              refine tx_then ?_
              exfalso; omega
          · try (exfalso; omega)
            all_goals
              refine tl_want rfl rfl rfl (oj_val (y_fieldAddr (td := 3) Try.underlying81 rfl rfl Try.sizeOf3 (o' := 1) rfl (fe_t rfl)) ?_)
              refine tl_want rfl rfl rfl (oj_val (y_ldb 2 Try.isAgg3 (fe_t rfl) rfl rfl) ?_)
              refine tl_want rfl rfl rfl (oj_val (y_gtr (fe_t rfl) fe_c) ?_)
              refine tl_step rfl (oj_val (y_pickf (fe_t rfl) (fe_t rfl)) ?_)
              refine tl_nil ?_
              refine tx_then ?_
              refine tr_condp (fe_t rfl) (fun hq7 => ?_) (fun hq8 => ?_)
              · exfalso; omega
              · try (exfalso; omega)
                all_goals
                  refine tr_seq ?_
                  refine tr_region ?_
                  refine tl_step rfl (oj_val (y_move (fe_t rfl)) ?_)
                  refine tl_step rfl (oj_val (y_neq (fe_t rfl) fe_c) ?_)
                  refine tl_step rfl (oj_val (y_move (fe_t rfl)) ?_)
                  refine tl_splitp (d := 73) rfl (fun hq9 => ?_) (fun hq10 => ?_)
                  · try (exfalso; omega)
                    all_goals
                      refine tl_skip rfl rfl rfl rfl ?_
                      refine tl_skip rfl rfl rfl rfl ?_
                      refine tl_skip rfl rfl rfl rfl ?_
                      refine tl_skip rfl rfl rfl rfl ?_
                      refine tl_skip rfl rfl rfl rfl ?_
                      refine tl_skip rfl rfl rfl rfl ?_
                      refine tl_skip rfl rfl rfl rfl ?_
                      refine tl_step rfl (oj_val (y_pickt (fe_t rfl) fe_c) ?_)
                      refine tl_nil ?_
                      refine tx_then ?_
                      exfalso; omega
                  · try (exfalso; omega)
                    all_goals
                      refine tl_want rfl rfl rfl (oj_val (y_move (fe_t rfl)) ?_)
                      refine tl_want rfl rfl rfl (oj_val (y_move (fe_t rfl)) ?_)
                      refine tl_want rfl rfl rfl (oj_val (y_fieldAddr (td := 3) Try.underlying81 rfl rfl Try.sizeOf3 (o' := 1) rfl (fe_t rfl)) ?_)
                      refine tl_want rfl rfl rfl (oj_val (y_ldb 2 Try.isAgg3 (fe_t rfl) rfl rfl) ?_)
                      refine tl_want rfl rfl rfl (oj_val (y_move (fe_t rfl)) ?_)
                      refine tl_want rfl rfl rfl (oj_callv Try.call62 fe_f (fel_cons (fe_t rfl) (fel_cons (fe_t rfl) (fel_cons (fe_t rfl) fel_nil))) (fun w' hS => vplace_ok w' (by omega) (by omega) (by omega) (by omega) i0 i1) ?_)
                      refine tl_want rfl rfl rfl (oj_val (y_neq (fe_t rfl) (fe_t rfl)) ?_)
                      refine tl_step rfl (oj_val (y_pickf (fe_t rfl) (fe_t rfl)) ?_)
                      refine tl_nil ?_
                      refine tx_then ?_
                      refine tr_condp (fe_t rfl) (fun hq11 => ?_) (fun hq12 => ?_)
                      · exfalso; omega
                      · try (exfalso; omega)
                        all_goals
                          refine tr_skip ?_
                          refine tx_then ?_
                          refine tr_seq ?_
                          refine tr_seq ?_
                          refine tr_draw (sel _ [0, 1, 2]) (fun w h => h.sel _ rfl (by decide)) rfl ?_
                          refine ta_float (i := 0) rfl (by kernel_rfl) (wants_none rfl) (yq_of (y_ldbA 2 Try.isAgg81 Try.sizeOf81 (fe_t rfl) rfl rfl rfl)) ?_
                          refine ta_float (i := 1) rfl (by kernel_rfl) (wants_none rfl) (yq_call Try.call63 fe_f (fel_cons (fe_t rfl) fel_nil) (fun w' hS => of_bel (Sketch.right_no A n c w' (Rd.below hr hS.below) hn (by omega) va))) ?_
                          refine ta_float (i := 2) rfl (by kernel_rfl) (wants_none rfl) (yq_of (y_ldbA 2 Try.isAgg81 Try.sizeOf81 (fe_t rfl) rfl rfl rfl)) ?_
                          refine ta_float (i := 3) rfl (by kernel_rfl) (wants_none rfl) (yq_call Try.call64 fe_f (fel_cons (fe_t rfl) fel_nil) (fun w' hS => of_bel (Sketch.vright_no A n c w' (Rd.below hr hS.below) hn (by omega) va))) ?_
                          refine ta_float (i := 4) rfl (by kernel_rfl) (wants_none rfl) (yq_of (y_nebb Try.underlying4 (fe_t rfl) (fe_t rfl))) ?_
                          refine ta_float (i := 5) rfl (by kernel_rfl) (wants_none rfl) (yq_of (y_move (fe_t rfl))) ?_
                          refine ta_float (i := 6) rfl (by kernel_rfl) (wants_t rfl rfl rfl) (yq_of (y_move (fe_t rfl))) ?_
                          refine ta_float (i := 7) rfl (by kernel_rfl) (wants_t rfl rfl rfl) (yq_of (y_move (fe_t rfl))) ?_
                          refine ta_float (i := 8) rfl (by kernel_rfl) (wants_t rfl rfl rfl) (yq_of (y_neq (fe_t rfl) (fe_t rfl))) ?_
                          refine ta_float (i := 9) rfl (by kernel_rfl) (wants_none rfl) (yq_of (y_pickf (fe_t rfl) (fe_t rfl))) ?_
                          refine ta_float (i := 10) rfl (by kernel_rfl) (wants_none rfl) (yq_of (y_move (fe_t rfl))) ?_
                          refine ta_splitp (d := 92) rfl (fun hq13 => ?_) (fun hq14 => ?_)
                          · try (exfalso; omega)
                            all_goals
                              refine ta_skip (i := 11) rfl (by kernel_rfl) (wants_f rfl rfl rfl rfl) ?_
                              refine ta_skip (i := 12) rfl (by kernel_rfl) (wants_f rfl rfl rfl rfl) ?_
                              refine ta_skip (i := 13) rfl (by kernel_rfl) (wants_f rfl rfl rfl rfl) ?_
                              refine ta_skip (i := 14) rfl (by kernel_rfl) (wants_f rfl rfl rfl rfl) ?_
                              refine ta_float (i := 15) rfl (by kernel_rfl) (wants_none rfl) (yq_of (y_pickt (fe_t rfl) fe_c)) ?_
                              refine ta_done (by kernel_rfl) ?_
                              refine tx_then ?_
                              refine tr_condt (fe_t rfl) ?_
                              refine tr_seq ?_
                              refine tr_region ?_
                              refine tl_step rfl (oj_val (y_assign fe_c) ?_)
                              refine tl_nil ?_
                              refine tx_then ?_
                              refine tr_ret ?_
                              refine tx_then_ret ?_
                              refine tx_ret (res1 Try.results8 (rok_t rfl)) (fun w' hS => ?_)
                              exact ⟨ret_bool (by first | rfl | (simp; done)), hS.pick [] _ rfl (by decide)⟩
                          · try (exfalso; omega)
                            all_goals
                              refine ta_float (i := 11) rfl (by kernel_rfl) (wants_t rfl rfl rfl) (yq_of (y_ldbA 1 Try.isAgg81 Try.sizeOf81 (fe_t rfl) rfl rfl rfl)) ?_
                              refine ta_float (i := 12) rfl (by kernel_rfl) (wants_t rfl rfl rfl) (yq_of (y_ldbA 0 Try.isAgg81 Try.sizeOf81 (fe_t rfl) rfl rfl rfl)) ?_
                              refine ta_float (i := 13) rfl (by kernel_rfl) (wants_t rfl rfl rfl) (yq_call Try.call65 fe_f (fel_cons (fe_t rfl) (fel_cons (fe_t rfl) fel_nil)) (fun w' hS => of_bel (Sketch.same_any 0 0 none none 0 0 0 [] w' Rd.nil Rd.nil rfl (by omega)))) ?_
                              refine ta_float (i := 14) rfl (by kernel_rfl) (wants_t rfl rfl rfl) (yq_of (y_not (fe_t rfl))) ?_
                              refine ta_float (i := 15) rfl (by kernel_rfl) (wants_none rfl) (yq_of (y_pickf (fe_t rfl) (fe_t rfl))) ?_
                              refine ta_done (by kernel_rfl) ?_
                              refine tx_then ?_
                              refine tr_condf (fe_t rfl) ?_
                              refine tr_skip ?_
                              refine tx_then ?_
                              refine tr_seq ?_
                              refine tr_seq ?_
                              refine tr_region ?_
                              refine tl_step rfl (oj_val (y_ldbA 2 Try.isAgg81 Try.sizeOf81 (fe_t rfl) rfl rfl rfl) ?_)
                              refine tl_step rfl (oj_callv Try.call64 fe_f (fel_cons (fe_t rfl) fel_nil) (fun w' hS => of_bel (Sketch.vright_no A n c w' (Rd.below hr hS.below) hn (by omega) va)) ?_)
                              refine tl_step rfl (oj_val (y_not (fe_t rfl)) ?_)
                              refine tl_nil ?_
                              refine tx_then ?_
                              refine tr_condt (fe_t rfl) ?_
                              refine tr_seq ?_
                              refine tr_region ?_
                              refine tl_step rfl (oj_val (y_move (fe_t rfl)) ?_)
                              refine tl_step rfl (oj_val (y_eq (fe_t rfl) fe_c) ?_)
                              refine tl_step rfl (oj_val (y_move (fe_t rfl)) ?_)
                              refine tl_splitp (d := 103) rfl (fun hq15 => ?_) (fun hq16 => ?_)
                              · try (exfalso; omega)
                                all_goals
                                  refine tl_want rfl rfl rfl (oj_val (y_move (fe_t rfl)) ?_)
                                  refine tl_want rfl rfl rfl (oj_val (y_eq (fe_t rfl) fe_c) ?_)
                                  refine tl_step rfl (oj_val (y_pickt (fe_t rfl) (fe_t rfl)) ?_)
                                  refine tl_step rfl (oj_val (y_assign (fe_t rfl)) ?_)
                                  refine tl_nil ?_
                                  refine tx_then ?_
                                  refine tr_ret ?_
                                  refine tx_then_ret ?_
                                  refine tx_ret (res1 Try.results8 (rok_t rfl)) (fun w' hS => ?_)
                                  exact ⟨ret_bool (by first | rfl | (simp; done)), hS.pick [] _ rfl (by decide)⟩
                              · try (exfalso; omega)
                                all_goals
                                  refine tl_skip rfl rfl rfl rfl ?_
                                  refine tl_skip rfl rfl rfl rfl ?_
                                  refine tl_step rfl (oj_val (y_pickf (fe_t rfl) fe_c) ?_)
                                  refine tl_step rfl (oj_val (y_assign (fe_t rfl)) ?_)
                                  refine tl_nil ?_
                                  refine tx_then ?_
                                  refine tr_ret ?_
                                  refine tx_then_ret ?_
                                  refine tx_ret (res1 Try.results8 (rok_t rfl)) (fun w' hS => ?_)
                                  exact ⟨ret_bool (by first | rfl | (simp; done)), hS.pick [] _ rfl (by decide)⟩

set_option maxRecDepth 100000 in
set_option maxHeartbeats 4000000 in
theorem law_p_rng {width row id nn : Int} {cf : Bool} (R : Nat) (A : Option Addr) (n c : Nat) (zs : List Int) (w : World) (hr : Rd w A (zs.map (.int .i64))) (hn : zs.length = n) (va : Sketch.vright (R : Int) width zs = true) (i0 : 0 ≤ id) (i1 : id < 18446744073709551616) (hpk : (0 ≤ row ∧ row ≤ 7) ∧ 1 ≤ width ∧ width ≤ 64) (hb : nn < 0 ∨ 1073741824 < nn) :
    Calls Try.prog 8 #[.agg #[(.int .i64 ((R : Int))), (.int .i64 width), .slice A n c], (.int .i64 row), .int .u64 id, (.int .i64 nn), .bool cf] w fun e w' => e = .returned (.bool true) ∧ St w w' [] := by
  obtain ⟨⟨d0, d1⟩, ⟨w0, w1⟩, hln⟩ := vright_facts va
  have hR8 : (R : Int) * width ≤ 8 * 64 := Int.mul_le_mul (by omega) w1 (by omega) (by omega)
  have hpos := Sketch.dims_prod (Sketch.dims_iff.2 ⟨⟨d0, d1⟩, w0, w1⟩)
  refine calls_tr Try.func8 Try.ntmps8 rfl rfl (St.refl _) ?_
  refine tr_seq ?_
  refine tr_region ?_
  refine tl_step rfl (oj_box (fe_t rfl) (fun sb => ?_))
  refine tl_step rfl (oj_val (y_assign fe_c) ?_)
  refine tl_nil ?_
  refine tx_then ?_
  refine tr_seq ?_
  refine tr_region ?_
  refine tl_step rfl (oj_val (y_move (fe_t rfl)) ?_)
  refine tl_step rfl (oj_val (y_fieldAddr (td := 3) Try.underlying81 rfl rfl Try.sizeOf3 (o' := 1) rfl (fe_t rfl)) ?_)
  refine tl_step rfl (oj_val (y_ldb 0 Try.isAgg3 (fe_t rfl) rfl rfl) ?_)
  refine tl_step rfl (oj_val (y_move (fe_t rfl)) ?_)
  refine tl_step rfl (oj_callv Try.call58 fe_f (fel_cons (fe_t rfl) (fel_cons (fe_t rfl) (fel_cons (fe_t rfl) fel_nil))) (fun w' hS => place_ok w' (by omega) (by omega) (by omega) (by omega) i0 i1) ?_)
  refine tl_step rfl (oj_val (y_move (fe_t rfl)) ?_)
  refine tl_step rfl (oj_val (y_extract (fe_t rfl) rfl) ?_)
  refine tl_step rfl (oj_val (y_extract (fe_t rfl) rfl) ?_)
  refine tl_step rfl (oj_val (y_assign (fe_t rfl)) ?_)
  refine tl_step rfl (oj_val (y_assign (fe_t rfl)) ?_)
  refine tl_nil ?_
  refine tx_then ?_
  refine tr_seq ?_
  refine tr_region ?_
  refine tl_step rfl (oj_val (y_ldbA 0 Try.isAgg81 Try.sizeOf81 (fe_t rfl) rfl rfl rfl) ?_)
  refine tl_step rfl (oj_val (y_move (fe_t rfl)) ?_)
  refine tl_step rfl (oj_callv Try.call59 fe_f (fel_cons (fe_t rfl) (fel_cons (fe_t rfl) fel_nil)) (fun w' hS => count_ok R A n c zs w' (Rd.below hr hS.below) hn va i0 i1) ?_)
  refine tl_step rfl (oj_val (y_move (fe_t rfl)) ?_)
  refine tl_step rfl (oj_val (y_extract (fe_t rfl) rfl) ?_)
  refine tl_step rfl (oj_val (y_extract (fe_t rfl) rfl) ?_)
  refine tl_step rfl (oj_val (y_assign (fe_t rfl)) ?_)
  refine tl_step rfl (oj_val (y_assign (fe_t rfl)) ?_)
  refine tl_nil ?_
  refine tx_then ?_
  refine tr_seq ?_
  refine tr_region ?_
  refine tl_step rfl (oj_val (y_ldbA 0 Try.isAgg81 Try.sizeOf81 (fe_t rfl) rfl rfl rfl) ?_)
  refine tl_step rfl (oj_val (y_move (fe_t rfl)) ?_)
  refine tl_step rfl (oj_val (y_move (fe_t rfl)) ?_)
  refine tl_step rfl (oj_val (y_move (fe_t rfl)) ?_)
  refine tl_step rfl (oj_callv Try.call60 fe_f (fel_cons (fe_t rfl) (fel_cons (fe_t rfl) (fel_cons (fe_t rfl) (fel_cons (fe_t rfl) fel_nil)))) (fun w' hS => Aadd_rng R A n c zs w' (Rd.below hr hS.below) hn va hb) ?_)
  refine tl_step rfl (oj_val (y_move (fe_t rfl)) ?_)
  refine tl_step rfl (oj_val (y_extract (fe_t rfl) rfl) ?_)
  refine tl_step rfl (oj_val (y_extract (fe_t rfl) rfl) ?_)
  refine tl_step rfl (oj_alloc Try.zeroValue81 (fun ab => ?_))
  refine tl_step rfl (oj_storeW 0 Try.sizeOf81 (fe_t rfl) (fe_t rfl) rfl rfl rfl rfl rfl (?_))
  refine tl_step rfl (oj_val (y_assign (fe_t rfl)) ?_)
  refine tl_nil ?_
  refine tx_then ?_
  refine tr_seq ?_
  refine tr_region ?_
  refine tl_step rfl (oj_val (y_ldbA 1 Try.isAgg81 Try.sizeOf81 (fe_t rfl) rfl rfl rfl) ?_)
  refine tl_step rfl (oj_val (y_move (fe_t rfl)) ?_)
  refine tl_step rfl (oj_val (y_move (fe_t rfl)) ?_)
  refine tl_step rfl (oj_val (y_move (fe_t rfl)) ?_)
  refine tl_step rfl (oj_callv Try.call61 fe_f (fel_cons (fe_t rfl) (fel_cons (fe_t rfl) (fel_cons (fe_t rfl) (fel_cons (fe_t rfl) fel_nil)))) (fun w' hS => Vadd_rng R A n c zs w' (Rd.below hr hS.below) hn va hb) ?_)
  refine tl_step rfl (oj_val (y_move (fe_t rfl)) ?_)
  refine tl_step rfl (oj_val (y_extract (fe_t rfl) rfl) ?_)
  refine tl_step rfl (oj_val (y_extract (fe_t rfl) rfl) ?_)
  refine tl_step rfl (oj_alloc Try.zeroValue81 (fun bb => ?_))
  refine tl_step rfl (oj_storeW 0 Try.sizeOf81 (fe_t rfl) (fe_t rfl) rfl rfl rfl rfl rfl (?_))
  refine tl_step rfl (oj_val (y_assign (fe_t rfl)) ?_)
  refine tl_nil ?_
  refine tx_then ?_
  refine tr_seq ?_
  refine tr_seq ?_
  refine tr_region ?_
  refine tl_step rfl (oj_val (y_move (fe_t rfl)) ?_)
  refine tl_step rfl (oj_val (y_lss (fe_t rfl) fe_c) ?_)
  refine tl_step rfl (oj_val (y_move (fe_t rfl)) ?_)
  refine tl_splitp (d := 51) rfl (fun hq1 => ?_) (fun hq2 => ?_)
  · try (exfalso; omega)
    all_goals
      refine tl_skip rfl rfl rfl rfl ?_
      refine tl_skip rfl rfl rfl rfl ?_
      refine tl_step rfl (oj_val (y_pickt (fe_t rfl) fe_c) ?_)
      refine tl_step rfl (oj_val (y_move (fe_t rfl)) ?_)
      refine tl_skip rfl rfl rfl rfl ?_
      refine tl_skip rfl rfl rfl rfl ?_
      refine tl_skip rfl rfl rfl rfl ?_
      refine tl_step rfl (oj_val (y_pickt (fe_t rfl) fe_c) ?_)
      refine tl_step rfl (oj_val (y_move (fe_t rfl)) ?_)
      refine tl_skip rfl rfl rfl rfl ?_
      refine tl_skip rfl rfl rfl rfl ?_
      refine tl_skip rfl rfl rfl rfl ?_
      refine tl_step rfl (oj_val (y_pickt (fe_t rfl) fe_c) ?_)
      refine tl_nil ?_
      refine tx_then ?_
      exfalso; omega
  · try (exfalso; omega)
    all_goals
      refine tl_want rfl rfl rfl (oj_val (y_move (fe_t rfl)) ?_)
      refine tl_want rfl rfl rfl (oj_val (y_gtr (fe_t rfl) fe_c) ?_)
      refine tl_step rfl (oj_val (y_pickf (fe_t rfl) (fe_t rfl)) ?_)
      refine tl_step rfl (oj_val (y_move (fe_t rfl)) ?_)
      refine tl_splitp (d := 55) rfl (fun hq3 => ?_) (fun hq4 => ?_)
      · try (exfalso; omega)
        all_goals
          refine tl_skip rfl rfl rfl rfl ?_
          refine tl_skip rfl rfl rfl rfl ?_
          refine tl_skip rfl rfl rfl rfl ?_
          refine tl_step rfl (oj_val (y_pickt (fe_t rfl) fe_c) ?_)
          refine tl_step rfl (oj_val (y_move (fe_t rfl)) ?_)
          refine tl_skip rfl rfl rfl rfl ?_
          refine tl_skip rfl rfl rfl rfl ?_
          refine tl_skip rfl rfl rfl rfl ?_
          refine tl_step rfl (oj_val (y_pickt (fe_t rfl) fe_c) ?_)
          refine tl_nil ?_
          refine tx_then ?_
          exfalso; omega
      · try (exfalso; omega)
        all_goals
          refine tl_want rfl rfl rfl (oj_val (y_fieldAddr (td := 3) Try.underlying81 rfl rfl Try.sizeOf3 (o' := 1) rfl (fe_t rfl)) ?_)
          refine tl_want rfl rfl rfl (oj_val (y_ldb 2 Try.isAgg3 (fe_t rfl) rfl rfl) ?_)
          refine tl_want rfl rfl rfl (oj_val (y_lss (fe_t rfl) fe_c) ?_)
          refine tl_step rfl (oj_val (y_pickf (fe_t rfl) (fe_t rfl)) ?_)
          refine tl_step rfl (oj_val (y_move (fe_t rfl)) ?_)
          refine tl_splitp (d := 60) rfl (fun hq5 => ?_) (fun hq6 => ?_)
          · try (exfalso; omega)
            all_goals
              refine tl_skip rfl rfl rfl rfl ?_
              refine tl_skip rfl rfl rfl rfl ?_
              refine tl_skip rfl rfl rfl rfl ?_
              refine tl_step rfl (oj_val (y_pickt (fe_t rfl) fe_c) ?_)
              refine tl_nil ?_
              refine tx_then ?_
              exfalso; omega
          · try (exfalso; omega)
            all_goals
              refine tl_want rfl rfl rfl (oj_val (y_fieldAddr (td := 3) Try.underlying81 rfl rfl Try.sizeOf3 (o' := 1) rfl (fe_t rfl)) ?_)
              refine tl_want rfl rfl rfl (oj_val (y_ldb 2 Try.isAgg3 (fe_t rfl) rfl rfl) ?_)
              refine tl_want rfl rfl rfl (oj_val (y_gtr (fe_t rfl) fe_c) ?_)
              refine tl_step rfl (oj_val (y_pickf (fe_t rfl) (fe_t rfl)) ?_)
              refine tl_nil ?_
              refine tx_then ?_
              refine tr_condp (fe_t rfl) (fun hq7 => ?_) (fun hq8 => ?_)
              · exfalso; omega
              · try (exfalso; omega)
                all_goals
                  refine tr_seq ?_
                  refine tr_region ?_
                  refine tl_step rfl (oj_val (y_move (fe_t rfl)) ?_)
                  refine tl_step rfl (oj_val (y_neq (fe_t rfl) fe_c) ?_)
                  refine tl_step rfl (oj_val (y_move (fe_t rfl)) ?_)
                  refine tl_splitp (d := 73) rfl (fun hq9 => ?_) (fun hq10 => ?_)
                  · try (exfalso; omega)
                    all_goals
                      refine tl_skip rfl rfl rfl rfl ?_
                      refine tl_skip rfl rfl rfl rfl ?_
                      refine tl_skip rfl rfl rfl rfl ?_
                      refine tl_skip rfl rfl rfl rfl ?_
                      refine tl_skip rfl rfl rfl rfl ?_
                      refine tl_skip rfl rfl rfl rfl ?_
                      refine tl_skip rfl rfl rfl rfl ?_
                      refine tl_step rfl (oj_val (y_pickt (fe_t rfl) fe_c) ?_)
                      refine tl_nil ?_
                      refine tx_then ?_
                      exfalso; omega
                  · try (exfalso; omega)
                    all_goals
                      refine tl_want rfl rfl rfl (oj_val (y_move (fe_t rfl)) ?_)
                      refine tl_want rfl rfl rfl (oj_val (y_move (fe_t rfl)) ?_)
                      refine tl_want rfl rfl rfl (oj_val (y_fieldAddr (td := 3) Try.underlying81 rfl rfl Try.sizeOf3 (o' := 1) rfl (fe_t rfl)) ?_)
                      refine tl_want rfl rfl rfl (oj_val (y_ldb 2 Try.isAgg3 (fe_t rfl) rfl rfl) ?_)
                      refine tl_want rfl rfl rfl (oj_val (y_move (fe_t rfl)) ?_)
                      refine tl_want rfl rfl rfl (oj_callv Try.call62 fe_f (fel_cons (fe_t rfl) (fel_cons (fe_t rfl) (fel_cons (fe_t rfl) fel_nil))) (fun w' hS => vplace_ok w' (by omega) (by omega) (by omega) (by omega) i0 i1) ?_)
                      refine tl_want rfl rfl rfl (oj_val (y_neq (fe_t rfl) (fe_t rfl)) ?_)
                      refine tl_step rfl (oj_val (y_pickf (fe_t rfl) (fe_t rfl)) ?_)
                      refine tl_nil ?_
                      refine tx_then ?_
                      refine tr_condp (fe_t rfl) (fun hq11 => ?_) (fun hq12 => ?_)
                      · exfalso; omega
                      · try (exfalso; omega)
                        all_goals
                          refine tr_skip ?_
                          refine tx_then ?_
                          refine tr_seq ?_
                          refine tr_seq ?_
                          refine tr_draw (sel _ [0, 1, 2]) (fun w h => h.sel _ rfl (by decide)) rfl ?_
                          refine ta_float (i := 0) rfl (by kernel_rfl) (wants_none rfl) (yq_of (y_ldbA 2 Try.isAgg81 Try.sizeOf81 (fe_t rfl) rfl rfl rfl)) ?_
                          refine ta_float (i := 1) rfl (by kernel_rfl) (wants_none rfl) (yq_call Try.call63 fe_f (fel_cons (fe_t rfl) fel_nil) (fun w' hS => of_bel (Sketch.right_yes A n c w' (Rd.below hr hS.below) hn (by omega) va))) ?_
                          refine ta_float (i := 2) rfl (by kernel_rfl) (wants_none rfl) (yq_of (y_ldbA 2 Try.isAgg81 Try.sizeOf81 (fe_t rfl) rfl rfl rfl)) ?_
                          refine ta_float (i := 3) rfl (by kernel_rfl) (wants_none rfl) (yq_call Try.call64 fe_f (fel_cons (fe_t rfl) fel_nil) (fun w' hS => of_bel (Sketch.vright_yes A n c w' (Rd.below hr hS.below) hn (by omega) va))) ?_
                          refine ta_float (i := 4) rfl (by kernel_rfl) (wants_none rfl) (yq_of (y_nebb Try.underlying4 (fe_t rfl) (fe_t rfl))) ?_
                          refine ta_float (i := 5) rfl (by kernel_rfl) (wants_none rfl) (yq_of (y_move (fe_t rfl))) ?_
                          refine ta_float (i := 6) rfl (by kernel_rfl) (wants_t rfl rfl rfl) (yq_of (y_move (fe_t rfl))) ?_
                          refine ta_float (i := 7) rfl (by kernel_rfl) (wants_t rfl rfl rfl) (yq_of (y_move (fe_t rfl))) ?_
                          refine ta_float (i := 8) rfl (by kernel_rfl) (wants_t rfl rfl rfl) (yq_of (y_neq (fe_t rfl) (fe_t rfl))) ?_
                          refine ta_float (i := 9) rfl (by kernel_rfl) (wants_none rfl) (yq_of (y_pickf (fe_t rfl) (fe_t rfl))) ?_
                          refine ta_float (i := 10) rfl (by kernel_rfl) (wants_none rfl) (yq_of (y_move (fe_t rfl))) ?_
                          refine ta_splitp (d := 92) rfl (fun hq13 => ?_) (fun hq14 => ?_)
                          · try (exfalso; omega)
                            all_goals
                              refine ta_skip (i := 11) rfl (by kernel_rfl) (wants_f rfl rfl rfl rfl) ?_
                              refine ta_skip (i := 12) rfl (by kernel_rfl) (wants_f rfl rfl rfl rfl) ?_
                              refine ta_skip (i := 13) rfl (by kernel_rfl) (wants_f rfl rfl rfl rfl) ?_
                              refine ta_skip (i := 14) rfl (by kernel_rfl) (wants_f rfl rfl rfl rfl) ?_
                              refine ta_float (i := 15) rfl (by kernel_rfl) (wants_none rfl) (yq_of (y_pickt (fe_t rfl) fe_c)) ?_
                              refine ta_done (by kernel_rfl) ?_
                              refine tx_then ?_
                              refine tr_condt (fe_t rfl) ?_
                              refine tr_seq ?_
                              refine tr_region ?_
                              refine tl_step rfl (oj_val (y_assign fe_c) ?_)
                              refine tl_nil ?_
                              refine tx_then ?_
                              refine tr_ret ?_
                              refine tx_then_ret ?_
                              refine tx_ret (res1 Try.results8 (rok_t rfl)) (fun w' hS => ?_)
                              exact ⟨ret_bool (by first | rfl | (simp; done)), hS.pick [] _ rfl (by decide)⟩
                          · try (exfalso; omega)
                            all_goals
                              refine ta_float (i := 11) rfl (by kernel_rfl) (wants_t rfl rfl rfl) (yq_of (y_ldbA 1 Try.isAgg81 Try.sizeOf81 (fe_t rfl) rfl rfl rfl)) ?_
                              refine ta_float (i := 12) rfl (by kernel_rfl) (wants_t rfl rfl rfl) (yq_of (y_ldbA 0 Try.isAgg81 Try.sizeOf81 (fe_t rfl) rfl rfl rfl)) ?_
                              refine ta_float (i := 13) rfl (by kernel_rfl) (wants_t rfl rfl rfl) (yq_call Try.call65 fe_f (fel_cons (fe_t rfl) (fel_cons (fe_t rfl) fel_nil)) (fun w' hS => of_bel (Sketch.same_any 0 0 none none 0 0 0 [] w' Rd.nil Rd.nil rfl (by omega)))) ?_
                              refine ta_float (i := 14) rfl (by kernel_rfl) (wants_t rfl rfl rfl) (yq_of (y_not (fe_t rfl))) ?_
                              refine ta_float (i := 15) rfl (by kernel_rfl) (wants_none rfl) (yq_of (y_pickf (fe_t rfl) (fe_t rfl))) ?_
                              refine ta_done (by kernel_rfl) ?_
                              refine tx_then ?_
                              refine tr_condf (fe_t rfl) ?_
                              refine tr_skip ?_
                              refine tx_then ?_
                              refine tr_seq ?_
                              refine tr_seq ?_
                              refine tr_region ?_
                              refine tl_step rfl (oj_val (y_ldbA 2 Try.isAgg81 Try.sizeOf81 (fe_t rfl) rfl rfl rfl) ?_)
                              refine tl_step rfl (oj_callv Try.call64 fe_f (fel_cons (fe_t rfl) fel_nil) (fun w' hS => of_bel (Sketch.vright_yes A n c w' (Rd.below hr hS.below) hn (by omega) va)) ?_)
                              refine tl_step rfl (oj_val (y_not (fe_t rfl)) ?_)
                              refine tl_nil ?_
                              refine tx_then ?_
                              refine tr_condf (fe_t rfl) ?_
                              refine tr_skip ?_
                              refine tx_then ?_
                              refine tr_seq ?_
                              refine tr_region ?_
                              refine tl_step rfl (oj_val (y_move (fe_t rfl)) ?_)
                              refine tl_step rfl (oj_val (y_eq (fe_t rfl) fe_c) ?_)
                              refine tl_step rfl (oj_val (y_move (fe_t rfl)) ?_)
                              refine tl_splitp (d := 109) rfl (fun hq15 => ?_) (fun hq16 => ?_)
                              · try (exfalso; omega)
                                all_goals
                                  refine tl_want rfl rfl rfl (oj_val (y_move (fe_t rfl)) ?_)
                                  refine tl_want rfl rfl rfl (oj_val (y_ldbA 2 Try.isAgg81 Try.sizeOf81 (fe_t rfl) rfl rfl rfl) ?_)
                                  refine tl_want rfl rfl rfl (oj_val (y_move (fe_t rfl)) ?_)
                                  refine tl_want rfl rfl rfl (oj_callv Try.call66 fe_f (fel_cons (fe_t rfl) (fel_cons (fe_t rfl) fel_nil)) (fun w' hS => vcount_ok R A n c zs w' (Rd.below hr hS.below) hn va i0 i1) ?_)
                                  refine tl_want rfl rfl rfl (oj_val (y_eq (fe_t rfl) (fe_t rfl)) ?_)
                                  refine tl_step rfl (oj_val (y_pickt (fe_t rfl) (fe_t rfl)) ?_)
                                  refine tl_step rfl (oj_val (y_assign (fe_t rfl)) ?_)
                                  refine tl_nil ?_
                                  refine tx_then ?_
                                  refine tr_ret ?_
                                  refine tx_ret (res1 Try.results8 (rok_t rfl)) (fun w' hS => ?_)
                                  exact ⟨ret_bool (by first | rfl | (simp; done)), hS.pick [] _ rfl (by decide)⟩
                              · try (exfalso; omega)
                                all_goals
                                  refine tl_skip rfl rfl rfl rfl ?_
                                  refine tl_skip rfl rfl rfl rfl ?_
                                  refine tl_skip rfl rfl rfl rfl ?_
                                  refine tl_skip rfl rfl rfl rfl ?_
                                  refine tl_skip rfl rfl rfl rfl ?_
                                  refine tl_step rfl (oj_val (y_pickf (fe_t rfl) fe_c) ?_)
                                  refine tl_step rfl (oj_val (y_assign (fe_t rfl)) ?_)
                                  refine tl_nil ?_
                                  refine tx_then ?_
                                  refine tr_ret ?_
                                  refine tx_ret (res1 Try.results8 (rok_t rfl)) (fun w' hS => ?_)
                                  exact ⟨ret_bool (by first | rfl | (simp; done)), hS.pick [] _ rfl (by decide)⟩

set_option maxRecDepth 100000 in
set_option maxHeartbeats 4000000 in
theorem law_p_full {width row id nn : Int} {cf : Bool} (R : Nat) (A : Option Addr) (n c : Nat) (zs : List Int) (w : World) (hr : Rd w A (zs.map (.int .i64))) (hn : zs.length = n) (va : Sketch.vright (R : Int) width zs = true) (i0 : 0 ≤ id) (i1 : id < 18446744073709551616) (hpk : (0 ≤ row ∧ row ≤ 7) ∧ 1 ≤ width ∧ width ≤ 64) (hn0 : 0 ≤ nn) (hn1 : nn ≤ 1073741824) (hf : bigs zs (nw cf (least zs width id R) nn) width id R = true) :
    Calls Try.prog 8 #[.agg #[(.int .i64 ((R : Int))), (.int .i64 width), .slice A n c], (.int .i64 row), .int .u64 id, (.int .i64 nn), .bool cf] w fun e w' => e = .returned (.bool true) ∧ St w w' [] := by
  obtain ⟨⟨d0, d1⟩, ⟨w0, w1⟩, hln⟩ := vright_facts va
  have hR8 : (R : Int) * width ≤ 8 * 64 := Int.mul_le_mul (by omega) w1 (by omega) (by omega)
  have hpos := Sketch.dims_prod (Sketch.dims_iff.2 ⟨⟨d0, d1⟩, w0, w1⟩)
  refine calls_tr Try.func8 Try.ntmps8 rfl rfl (St.refl _) ?_
  refine tr_seq ?_
  refine tr_region ?_
  refine tl_step rfl (oj_box (fe_t rfl) (fun sb => ?_))
  refine tl_step rfl (oj_val (y_assign fe_c) ?_)
  refine tl_nil ?_
  refine tx_then ?_
  refine tr_seq ?_
  refine tr_region ?_
  refine tl_step rfl (oj_val (y_move (fe_t rfl)) ?_)
  refine tl_step rfl (oj_val (y_fieldAddr (td := 3) Try.underlying81 rfl rfl Try.sizeOf3 (o' := 1) rfl (fe_t rfl)) ?_)
  refine tl_step rfl (oj_val (y_ldb 0 Try.isAgg3 (fe_t rfl) rfl rfl) ?_)
  refine tl_step rfl (oj_val (y_move (fe_t rfl)) ?_)
  refine tl_step rfl (oj_callv Try.call58 fe_f (fel_cons (fe_t rfl) (fel_cons (fe_t rfl) (fel_cons (fe_t rfl) fel_nil))) (fun w' hS => place_ok w' (by omega) (by omega) (by omega) (by omega) i0 i1) ?_)
  refine tl_step rfl (oj_val (y_move (fe_t rfl)) ?_)
  refine tl_step rfl (oj_val (y_extract (fe_t rfl) rfl) ?_)
  refine tl_step rfl (oj_val (y_extract (fe_t rfl) rfl) ?_)
  refine tl_step rfl (oj_val (y_assign (fe_t rfl)) ?_)
  refine tl_step rfl (oj_val (y_assign (fe_t rfl)) ?_)
  refine tl_nil ?_
  refine tx_then ?_
  refine tr_seq ?_
  refine tr_region ?_
  refine tl_step rfl (oj_val (y_ldbA 0 Try.isAgg81 Try.sizeOf81 (fe_t rfl) rfl rfl rfl) ?_)
  refine tl_step rfl (oj_val (y_move (fe_t rfl)) ?_)
  refine tl_step rfl (oj_callv Try.call59 fe_f (fel_cons (fe_t rfl) (fel_cons (fe_t rfl) fel_nil)) (fun w' hS => count_ok R A n c zs w' (Rd.below hr hS.below) hn va i0 i1) ?_)
  refine tl_step rfl (oj_val (y_move (fe_t rfl)) ?_)
  refine tl_step rfl (oj_val (y_extract (fe_t rfl) rfl) ?_)
  refine tl_step rfl (oj_val (y_extract (fe_t rfl) rfl) ?_)
  refine tl_step rfl (oj_val (y_assign (fe_t rfl)) ?_)
  refine tl_step rfl (oj_val (y_assign (fe_t rfl)) ?_)
  refine tl_nil ?_
  refine tx_then ?_
  refine tr_seq ?_
  refine tr_region ?_
  refine tl_step rfl (oj_val (y_ldbA 0 Try.isAgg81 Try.sizeOf81 (fe_t rfl) rfl rfl rfl) ?_)
  refine tl_step rfl (oj_val (y_move (fe_t rfl)) ?_)
  refine tl_step rfl (oj_val (y_move (fe_t rfl)) ?_)
  refine tl_step rfl (oj_val (y_move (fe_t rfl)) ?_)
  refine tl_step rfl (oj_callv Try.call60 fe_f (fel_cons (fe_t rfl) (fel_cons (fe_t rfl) (fel_cons (fe_t rfl) (fel_cons (fe_t rfl) fel_nil)))) (fun w' hS => Aadd_full R A n c zs w' (Rd.below hr hS.below) hn va i0 i1 hn0 hn1 hf) ?_)
  refine tl_step rfl (oj_val (y_move (fe_t rfl)) ?_)
  refine tl_step rfl (oj_val (y_extract (fe_t rfl) rfl) ?_)
  refine tl_step rfl (oj_val (y_extract (fe_t rfl) rfl) ?_)
  refine tl_step rfl (oj_alloc Try.zeroValue81 (fun ab => ?_))
  refine tl_step rfl (oj_storeW 0 Try.sizeOf81 (fe_t rfl) (fe_t rfl) rfl rfl rfl rfl rfl (?_))
  refine tl_step rfl (oj_val (y_assign (fe_t rfl)) ?_)
  refine tl_nil ?_
  refine tx_then ?_
  refine tr_seq ?_
  refine tr_region ?_
  refine tl_step rfl (oj_val (y_ldbA 1 Try.isAgg81 Try.sizeOf81 (fe_t rfl) rfl rfl rfl) ?_)
  refine tl_step rfl (oj_val (y_move (fe_t rfl)) ?_)
  refine tl_step rfl (oj_val (y_move (fe_t rfl)) ?_)
  refine tl_step rfl (oj_val (y_move (fe_t rfl)) ?_)
  refine tl_step rfl (oj_callv Try.call61 fe_f (fel_cons (fe_t rfl) (fel_cons (fe_t rfl) (fel_cons (fe_t rfl) (fel_cons (fe_t rfl) fel_nil)))) (fun w' hS => Vadd_full R A n c zs w' (Rd.below hr hS.below) hn va i0 i1 hn0 hn1 hf) ?_)
  refine tl_step rfl (oj_val (y_move (fe_t rfl)) ?_)
  refine tl_step rfl (oj_val (y_extract (fe_t rfl) rfl) ?_)
  refine tl_step rfl (oj_val (y_extract (fe_t rfl) rfl) ?_)
  refine tl_step rfl (oj_alloc Try.zeroValue81 (fun bb => ?_))
  refine tl_step rfl (oj_storeW 0 Try.sizeOf81 (fe_t rfl) (fe_t rfl) rfl rfl rfl rfl rfl (?_))
  refine tl_step rfl (oj_val (y_assign (fe_t rfl)) ?_)
  refine tl_nil ?_
  refine tx_then ?_
  refine tr_seq ?_
  refine tr_seq ?_
  refine tr_region ?_
  refine tl_step rfl (oj_val (y_move (fe_t rfl)) ?_)
  refine tl_step rfl (oj_val (y_lss (fe_t rfl) fe_c) ?_)
  refine tl_step rfl (oj_val (y_move (fe_t rfl)) ?_)
  refine tl_splitp (d := 51) rfl (fun hq1 => ?_) (fun hq2 => ?_)
  · try (exfalso; omega)
    all_goals
      refine tl_skip rfl rfl rfl rfl ?_
      refine tl_skip rfl rfl rfl rfl ?_
      refine tl_step rfl (oj_val (y_pickt (fe_t rfl) fe_c) ?_)
      refine tl_step rfl (oj_val (y_move (fe_t rfl)) ?_)
      refine tl_skip rfl rfl rfl rfl ?_
      refine tl_skip rfl rfl rfl rfl ?_
      refine tl_skip rfl rfl rfl rfl ?_
      refine tl_step rfl (oj_val (y_pickt (fe_t rfl) fe_c) ?_)
      refine tl_step rfl (oj_val (y_move (fe_t rfl)) ?_)
      refine tl_skip rfl rfl rfl rfl ?_
      refine tl_skip rfl rfl rfl rfl ?_
      refine tl_skip rfl rfl rfl rfl ?_
      refine tl_step rfl (oj_val (y_pickt (fe_t rfl) fe_c) ?_)
      refine tl_nil ?_
      refine tx_then ?_
      exfalso; omega
  · try (exfalso; omega)
    all_goals
      refine tl_want rfl rfl rfl (oj_val (y_move (fe_t rfl)) ?_)
      refine tl_want rfl rfl rfl (oj_val (y_gtr (fe_t rfl) fe_c) ?_)
      refine tl_step rfl (oj_val (y_pickf (fe_t rfl) (fe_t rfl)) ?_)
      refine tl_step rfl (oj_val (y_move (fe_t rfl)) ?_)
      refine tl_splitp (d := 55) rfl (fun hq3 => ?_) (fun hq4 => ?_)
      · try (exfalso; omega)
        all_goals
          refine tl_skip rfl rfl rfl rfl ?_
          refine tl_skip rfl rfl rfl rfl ?_
          refine tl_skip rfl rfl rfl rfl ?_
          refine tl_step rfl (oj_val (y_pickt (fe_t rfl) fe_c) ?_)
          refine tl_step rfl (oj_val (y_move (fe_t rfl)) ?_)
          refine tl_skip rfl rfl rfl rfl ?_
          refine tl_skip rfl rfl rfl rfl ?_
          refine tl_skip rfl rfl rfl rfl ?_
          refine tl_step rfl (oj_val (y_pickt (fe_t rfl) fe_c) ?_)
          refine tl_nil ?_
          refine tx_then ?_
          exfalso; omega
      · try (exfalso; omega)
        all_goals
          refine tl_want rfl rfl rfl (oj_val (y_fieldAddr (td := 3) Try.underlying81 rfl rfl Try.sizeOf3 (o' := 1) rfl (fe_t rfl)) ?_)
          refine tl_want rfl rfl rfl (oj_val (y_ldb 2 Try.isAgg3 (fe_t rfl) rfl rfl) ?_)
          refine tl_want rfl rfl rfl (oj_val (y_lss (fe_t rfl) fe_c) ?_)
          refine tl_step rfl (oj_val (y_pickf (fe_t rfl) (fe_t rfl)) ?_)
          refine tl_step rfl (oj_val (y_move (fe_t rfl)) ?_)
          refine tl_splitp (d := 60) rfl (fun hq5 => ?_) (fun hq6 => ?_)
          · try (exfalso; omega)
            all_goals
              refine tl_skip rfl rfl rfl rfl ?_
              refine tl_skip rfl rfl rfl rfl ?_
              refine tl_skip rfl rfl rfl rfl ?_
              refine tl_step rfl (oj_val (y_pickt (fe_t rfl) fe_c) ?_)
              refine tl_nil ?_
              refine tx_then ?_
              exfalso; omega
          · try (exfalso; omega)
            all_goals
              refine tl_want rfl rfl rfl (oj_val (y_fieldAddr (td := 3) Try.underlying81 rfl rfl Try.sizeOf3 (o' := 1) rfl (fe_t rfl)) ?_)
              refine tl_want rfl rfl rfl (oj_val (y_ldb 2 Try.isAgg3 (fe_t rfl) rfl rfl) ?_)
              refine tl_want rfl rfl rfl (oj_val (y_gtr (fe_t rfl) fe_c) ?_)
              refine tl_step rfl (oj_val (y_pickf (fe_t rfl) (fe_t rfl)) ?_)
              refine tl_nil ?_
              refine tx_then ?_
              refine tr_condp (fe_t rfl) (fun hq7 => ?_) (fun hq8 => ?_)
              · exfalso; omega
              · try (exfalso; omega)
                all_goals
                  refine tr_seq ?_
                  refine tr_region ?_
                  refine tl_step rfl (oj_val (y_move (fe_t rfl)) ?_)
                  refine tl_step rfl (oj_val (y_neq (fe_t rfl) fe_c) ?_)
                  refine tl_step rfl (oj_val (y_move (fe_t rfl)) ?_)
                  refine tl_splitp (d := 73) rfl (fun hq9 => ?_) (fun hq10 => ?_)
                  · try (exfalso; omega)
                    all_goals
                      refine tl_skip rfl rfl rfl rfl ?_
                      refine tl_skip rfl rfl rfl rfl ?_
                      refine tl_skip rfl rfl rfl rfl ?_
                      refine tl_skip rfl rfl rfl rfl ?_
                      refine tl_skip rfl rfl rfl rfl ?_
                      refine tl_skip rfl rfl rfl rfl ?_
                      refine tl_skip rfl rfl rfl rfl ?_
                      refine tl_step rfl (oj_val (y_pickt (fe_t rfl) fe_c) ?_)
                      refine tl_nil ?_
                      refine tx_then ?_
                      exfalso; omega
                  · try (exfalso; omega)
                    all_goals
                      refine tl_want rfl rfl rfl (oj_val (y_move (fe_t rfl)) ?_)
                      refine tl_want rfl rfl rfl (oj_val (y_move (fe_t rfl)) ?_)
                      refine tl_want rfl rfl rfl (oj_val (y_fieldAddr (td := 3) Try.underlying81 rfl rfl Try.sizeOf3 (o' := 1) rfl (fe_t rfl)) ?_)
                      refine tl_want rfl rfl rfl (oj_val (y_ldb 2 Try.isAgg3 (fe_t rfl) rfl rfl) ?_)
                      refine tl_want rfl rfl rfl (oj_val (y_move (fe_t rfl)) ?_)
                      refine tl_want rfl rfl rfl (oj_callv Try.call62 fe_f (fel_cons (fe_t rfl) (fel_cons (fe_t rfl) (fel_cons (fe_t rfl) fel_nil))) (fun w' hS => vplace_ok w' (by omega) (by omega) (by omega) (by omega) i0 i1) ?_)
                      refine tl_want rfl rfl rfl (oj_val (y_neq (fe_t rfl) (fe_t rfl)) ?_)
                      refine tl_step rfl (oj_val (y_pickf (fe_t rfl) (fe_t rfl)) ?_)
                      refine tl_nil ?_
                      refine tx_then ?_
                      refine tr_condp (fe_t rfl) (fun hq11 => ?_) (fun hq12 => ?_)
                      · exfalso; omega
                      · try (exfalso; omega)
                        all_goals
                          refine tr_skip ?_
                          refine tx_then ?_
                          refine tr_seq ?_
                          refine tr_seq ?_
                          refine tr_draw (sel _ [0, 1, 2]) (fun w h => h.sel _ rfl (by decide)) rfl ?_
                          refine ta_float (i := 0) rfl (by kernel_rfl) (wants_none rfl) (yq_of (y_ldbA 2 Try.isAgg81 Try.sizeOf81 (fe_t rfl) rfl rfl rfl)) ?_
                          refine ta_float (i := 1) rfl (by kernel_rfl) (wants_none rfl) (yq_call Try.call63 fe_f (fel_cons (fe_t rfl) fel_nil) (fun w' hS => of_bel (Sketch.right_yes A n c w' (Rd.below hr hS.below) hn (by omega) va))) ?_
                          refine ta_float (i := 2) rfl (by kernel_rfl) (wants_none rfl) (yq_of (y_ldbA 2 Try.isAgg81 Try.sizeOf81 (fe_t rfl) rfl rfl rfl)) ?_
                          refine ta_float (i := 3) rfl (by kernel_rfl) (wants_none rfl) (yq_call Try.call64 fe_f (fel_cons (fe_t rfl) fel_nil) (fun w' hS => of_bel (Sketch.vright_yes A n c w' (Rd.below hr hS.below) hn (by omega) va))) ?_
                          refine ta_float (i := 4) rfl (by kernel_rfl) (wants_none rfl) (yq_of (y_nebb Try.underlying4 (fe_t rfl) (fe_t rfl))) ?_
                          refine ta_float (i := 5) rfl (by kernel_rfl) (wants_none rfl) (yq_of (y_move (fe_t rfl))) ?_
                          refine ta_float (i := 6) rfl (by kernel_rfl) (wants_t rfl rfl rfl) (yq_of (y_move (fe_t rfl))) ?_
                          refine ta_float (i := 7) rfl (by kernel_rfl) (wants_t rfl rfl rfl) (yq_of (y_move (fe_t rfl))) ?_
                          refine ta_float (i := 8) rfl (by kernel_rfl) (wants_t rfl rfl rfl) (yq_of (y_neq (fe_t rfl) (fe_t rfl))) ?_
                          refine ta_float (i := 9) rfl (by kernel_rfl) (wants_none rfl) (yq_of (y_pickf (fe_t rfl) (fe_t rfl))) ?_
                          refine ta_float (i := 10) rfl (by kernel_rfl) (wants_none rfl) (yq_of (y_move (fe_t rfl))) ?_
                          refine ta_splitp (d := 92) rfl (fun hq13 => ?_) (fun hq14 => ?_)
                          · try (exfalso; omega)
                            all_goals
                              refine ta_skip (i := 11) rfl (by kernel_rfl) (wants_f rfl rfl rfl rfl) ?_
                              refine ta_skip (i := 12) rfl (by kernel_rfl) (wants_f rfl rfl rfl rfl) ?_
                              refine ta_skip (i := 13) rfl (by kernel_rfl) (wants_f rfl rfl rfl rfl) ?_
                              refine ta_skip (i := 14) rfl (by kernel_rfl) (wants_f rfl rfl rfl rfl) ?_
                              refine ta_float (i := 15) rfl (by kernel_rfl) (wants_none rfl) (yq_of (y_pickt (fe_t rfl) fe_c)) ?_
                              refine ta_done (by kernel_rfl) ?_
                              refine tx_then ?_
                              refine tr_condt (fe_t rfl) ?_
                              refine tr_seq ?_
                              refine tr_region ?_
                              refine tl_step rfl (oj_val (y_assign fe_c) ?_)
                              refine tl_nil ?_
                              refine tx_then ?_
                              refine tr_ret ?_
                              refine tx_then_ret ?_
                              refine tx_ret (res1 Try.results8 (rok_t rfl)) (fun w' hS => ?_)
                              exact ⟨ret_bool (by first | rfl | (simp; done)), hS.pick [] _ rfl (by decide)⟩
                          · try (exfalso; omega)
                            all_goals
                              refine ta_float (i := 11) rfl (by kernel_rfl) (wants_t rfl rfl rfl) (yq_of (y_ldbA 1 Try.isAgg81 Try.sizeOf81 (fe_t rfl) rfl rfl rfl)) ?_
                              refine ta_float (i := 12) rfl (by kernel_rfl) (wants_t rfl rfl rfl) (yq_of (y_ldbA 0 Try.isAgg81 Try.sizeOf81 (fe_t rfl) rfl rfl rfl)) ?_
                              refine ta_float (i := 13) rfl (by kernel_rfl) (wants_t rfl rfl rfl) (yq_call Try.call65 fe_f (fel_cons (fe_t rfl) (fel_cons (fe_t rfl) fel_nil)) (fun w' hS => of_bel (Sketch.same_any 0 0 none none 0 0 0 [] w' Rd.nil Rd.nil rfl (by omega)))) ?_
                              refine ta_float (i := 14) rfl (by kernel_rfl) (wants_t rfl rfl rfl) (yq_of (y_not (fe_t rfl))) ?_
                              refine ta_float (i := 15) rfl (by kernel_rfl) (wants_none rfl) (yq_of (y_pickf (fe_t rfl) (fe_t rfl))) ?_
                              refine ta_done (by kernel_rfl) ?_
                              refine tx_then ?_
                              refine tr_condf (fe_t rfl) ?_
                              refine tr_skip ?_
                              refine tx_then ?_
                              refine tr_seq ?_
                              refine tr_seq ?_
                              refine tr_region ?_
                              refine tl_step rfl (oj_val (y_ldbA 2 Try.isAgg81 Try.sizeOf81 (fe_t rfl) rfl rfl rfl) ?_)
                              refine tl_step rfl (oj_callv Try.call64 fe_f (fel_cons (fe_t rfl) fel_nil) (fun w' hS => of_bel (Sketch.vright_yes A n c w' (Rd.below hr hS.below) hn (by omega) va)) ?_)
                              refine tl_step rfl (oj_val (y_not (fe_t rfl)) ?_)
                              refine tl_nil ?_
                              refine tx_then ?_
                              refine tr_condf (fe_t rfl) ?_
                              refine tr_skip ?_
                              refine tx_then ?_
                              refine tr_seq ?_
                              refine tr_region ?_
                              refine tl_step rfl (oj_val (y_move (fe_t rfl)) ?_)
                              refine tl_step rfl (oj_val (y_eq (fe_t rfl) fe_c) ?_)
                              refine tl_step rfl (oj_val (y_move (fe_t rfl)) ?_)
                              refine tl_splitp (d := 109) rfl (fun hq15 => ?_) (fun hq16 => ?_)
                              · try (exfalso; omega)
                                all_goals
                                  refine tl_want rfl rfl rfl (oj_val (y_move (fe_t rfl)) ?_)
                                  refine tl_want rfl rfl rfl (oj_val (y_ldbA 2 Try.isAgg81 Try.sizeOf81 (fe_t rfl) rfl rfl rfl) ?_)
                                  refine tl_want rfl rfl rfl (oj_val (y_move (fe_t rfl)) ?_)
                                  refine tl_want rfl rfl rfl (oj_callv Try.call66 fe_f (fel_cons (fe_t rfl) (fel_cons (fe_t rfl) fel_nil)) (fun w' hS => vcount_ok R A n c zs w' (Rd.below hr hS.below) hn va i0 i1) ?_)
                                  refine tl_want rfl rfl rfl (oj_val (y_eq (fe_t rfl) (fe_t rfl)) ?_)
                                  refine tl_step rfl (oj_val (y_pickt (fe_t rfl) (fe_t rfl)) ?_)
                                  refine tl_step rfl (oj_val (y_assign (fe_t rfl)) ?_)
                                  refine tl_nil ?_
                                  refine tx_then ?_
                                  refine tr_ret ?_
                                  refine tx_ret (res1 Try.results8 (rok_t rfl)) (fun w' hS => ?_)
                                  exact ⟨ret_bool (by first | rfl | (simp; done)), hS.pick [] _ rfl (by decide)⟩
                              · try (exfalso; omega)
                                all_goals
                                  refine tl_skip rfl rfl rfl rfl ?_
                                  refine tl_skip rfl rfl rfl rfl ?_
                                  refine tl_skip rfl rfl rfl rfl ?_
                                  refine tl_skip rfl rfl rfl rfl ?_
                                  refine tl_skip rfl rfl rfl rfl ?_
                                  refine tl_step rfl (oj_val (y_pickf (fe_t rfl) fe_c) ?_)
                                  refine tl_step rfl (oj_val (y_assign (fe_t rfl)) ?_)
                                  refine tl_nil ?_
                                  refine tx_then ?_
                                  refine tr_ret ?_
                                  refine tx_ret (res1 Try.results8 (rok_t rfl)) (fun w' hS => ?_)
                                  exact ⟨ret_bool (by first | rfl | (simp; done)), hS.pick [] _ rfl (by decide)⟩

set_option maxRecDepth 100000 in
set_option maxHeartbeats 4000000 in
theorem law_p_ok {width row id nn : Int} {cf : Bool} (R : Nat) (A : Option Addr) (n c : Nat) (zs : List Int) (w : World) (hr : Rd w A (zs.map (.int .i64))) (hn : zs.length = n) (va : Sketch.vright (R : Int) width zs = true) (i0 : 0 ≤ id) (i1 : id < 18446744073709551616) (hpk : (0 ≤ row ∧ row ≤ 7) ∧ 1 ≤ width ∧ width ≤ 64) (hn0 : 0 ≤ nn) (hn1 : nn ≤ 1073741824) (hf : bigs zs (nw cf (least zs width id R) nn) width id R = false) :
    Calls Try.prog 8 #[.agg #[(.int .i64 ((R : Int))), (.int .i64 width), .slice A n c], (.int .i64 row), .int .u64 id, (.int .i64 nn), .bool cf] w fun e w' => e = .returned (.bool true) ∧ St w w' [] := by
  obtain ⟨⟨d0, d1⟩, ⟨w0, w1⟩, hln⟩ := vright_facts va
  have hR8 : (R : Int) * width ≤ 8 * 64 := Int.mul_le_mul (by omega) w1 (by omega) (by omega)
  have hpos := Sketch.dims_prod (Sketch.dims_iff.2 ⟨⟨d0, d1⟩, w0, w1⟩)
  refine calls_tr Try.func8 Try.ntmps8 rfl rfl (St.refl _) ?_
  refine tr_seq ?_
  refine tr_region ?_
  refine tl_step rfl (oj_box (fe_t rfl) (fun sb => ?_))
  refine tl_step rfl (oj_val (y_assign fe_c) ?_)
  refine tl_nil ?_
  refine tx_then ?_
  refine tr_seq ?_
  refine tr_region ?_
  refine tl_step rfl (oj_val (y_move (fe_t rfl)) ?_)
  refine tl_step rfl (oj_val (y_fieldAddr (td := 3) Try.underlying81 rfl rfl Try.sizeOf3 (o' := 1) rfl (fe_t rfl)) ?_)
  refine tl_step rfl (oj_val (y_ldb 0 Try.isAgg3 (fe_t rfl) rfl rfl) ?_)
  refine tl_step rfl (oj_val (y_move (fe_t rfl)) ?_)
  refine tl_step rfl (oj_callv Try.call58 fe_f (fel_cons (fe_t rfl) (fel_cons (fe_t rfl) (fel_cons (fe_t rfl) fel_nil))) (fun w' hS => place_ok w' (by omega) (by omega) (by omega) (by omega) i0 i1) ?_)
  refine tl_step rfl (oj_val (y_move (fe_t rfl)) ?_)
  refine tl_step rfl (oj_val (y_extract (fe_t rfl) rfl) ?_)
  refine tl_step rfl (oj_val (y_extract (fe_t rfl) rfl) ?_)
  refine tl_step rfl (oj_val (y_assign (fe_t rfl)) ?_)
  refine tl_step rfl (oj_val (y_assign (fe_t rfl)) ?_)
  refine tl_nil ?_
  refine tx_then ?_
  refine tr_seq ?_
  refine tr_region ?_
  refine tl_step rfl (oj_val (y_ldbA 0 Try.isAgg81 Try.sizeOf81 (fe_t rfl) rfl rfl rfl) ?_)
  refine tl_step rfl (oj_val (y_move (fe_t rfl)) ?_)
  refine tl_step rfl (oj_callv Try.call59 fe_f (fel_cons (fe_t rfl) (fel_cons (fe_t rfl) fel_nil)) (fun w' hS => count_ok R A n c zs w' (Rd.below hr hS.below) hn va i0 i1) ?_)
  refine tl_step rfl (oj_val (y_move (fe_t rfl)) ?_)
  refine tl_step rfl (oj_val (y_extract (fe_t rfl) rfl) ?_)
  refine tl_step rfl (oj_val (y_extract (fe_t rfl) rfl) ?_)
  refine tl_step rfl (oj_val (y_assign (fe_t rfl)) ?_)
  refine tl_step rfl (oj_val (y_assign (fe_t rfl)) ?_)
  refine tl_nil ?_
  refine tx_then ?_
  refine tr_seq ?_
  refine tr_region ?_
  refine tl_step rfl (oj_val (y_ldbA 0 Try.isAgg81 Try.sizeOf81 (fe_t rfl) rfl rfl rfl) ?_)
  refine tl_step rfl (oj_val (y_move (fe_t rfl)) ?_)
  refine tl_step rfl (oj_val (y_move (fe_t rfl)) ?_)
  refine tl_step rfl (oj_val (y_move (fe_t rfl)) ?_)
  refine tl_step rfl (oj_call Try.call60 fe_f (fel_cons (fe_t rfl) (fel_cons (fe_t rfl) (fel_cons (fe_t rfl) (fel_cons (fe_t rfl) fel_nil)))) (fun w' hS => Aadd_ok R A n c zs w' (Rd.below hr hS.below) hn va i0 i1 hn0 hn1 hf) (fun Aq Ah => ?_))
  refine tl_step rfl (oj_val (y_move (fe_t rfl)) ?_)
  refine tl_step rfl (oj_val (y_extract (fe_t rfl) rfl) ?_)
  refine tl_step rfl (oj_val (y_extract (fe_t rfl) rfl) ?_)
  refine tl_step rfl (oj_alloc Try.zeroValue81 (fun ab => ?_))
  refine tl_step rfl (oj_storeW 0 Try.sizeOf81 (fe_t rfl) (fe_t rfl) rfl rfl rfl rfl rfl (?_))
  refine tl_step rfl (oj_val (y_assign (fe_t rfl)) ?_)
  refine tl_nil ?_
  refine tx_then ?_
  refine tr_seq ?_
  refine tr_region ?_
  refine tl_step rfl (oj_val (y_ldbA 2 Try.isAgg81 Try.sizeOf81 (fe_t rfl) rfl rfl rfl) ?_)
  refine tl_step rfl (oj_val (y_move (fe_t rfl)) ?_)
  refine tl_step rfl (oj_val (y_move (fe_t rfl)) ?_)
  refine tl_step rfl (oj_val (y_move (fe_t rfl)) ?_)
  refine tl_step rfl (oj_call Try.call61 fe_f (fel_cons (fe_t rfl) (fel_cons (fe_t rfl) (fel_cons (fe_t rfl) (fel_cons (fe_t rfl) fel_nil)))) (fun w' hS => Vadd_ok R A n c zs w' (Rd.below hr hS.below) hn va i0 i1 hn0 hn1 hf) (fun Vq Vh => ?_))
  refine tl_step rfl (oj_val (y_move (fe_t rfl)) ?_)
  refine tl_step rfl (oj_val (y_extract (fe_t rfl) rfl) ?_)
  refine tl_step rfl (oj_val (y_extract (fe_t rfl) rfl) ?_)
  refine tl_step rfl (oj_alloc Try.zeroValue81 (fun bb => ?_))
  refine tl_step rfl (oj_storeW 0 Try.sizeOf81 (fe_t rfl) (fe_t rfl) rfl rfl rfl rfl rfl (?_))
  refine tl_step rfl (oj_val (y_assign (fe_t rfl)) ?_)
  refine tl_nil ?_
  refine tx_then ?_
  refine tr_seq ?_
  refine tr_seq ?_
  refine tr_region ?_
  refine tl_step rfl (oj_val (y_move (fe_t rfl)) ?_)
  refine tl_step rfl (oj_val (y_lss (fe_t rfl) fe_c) ?_)
  refine tl_step rfl (oj_val (y_move (fe_t rfl)) ?_)
  refine tl_splitp (d := 51) rfl (fun hq1 => ?_) (fun hq2 => ?_)
  · try (exfalso; omega)
    all_goals
      refine tl_skip rfl rfl rfl rfl ?_
      refine tl_skip rfl rfl rfl rfl ?_
      refine tl_step rfl (oj_val (y_pickt (fe_t rfl) fe_c) ?_)
      refine tl_step rfl (oj_val (y_move (fe_t rfl)) ?_)
      refine tl_skip rfl rfl rfl rfl ?_
      refine tl_skip rfl rfl rfl rfl ?_
      refine tl_skip rfl rfl rfl rfl ?_
      refine tl_step rfl (oj_val (y_pickt (fe_t rfl) fe_c) ?_)
      refine tl_step rfl (oj_val (y_move (fe_t rfl)) ?_)
      refine tl_skip rfl rfl rfl rfl ?_
      refine tl_skip rfl rfl rfl rfl ?_
      refine tl_skip rfl rfl rfl rfl ?_
      refine tl_step rfl (oj_val (y_pickt (fe_t rfl) fe_c) ?_)
      refine tl_nil ?_
      refine tx_then ?_
      exfalso; omega
  · try (exfalso; omega)
    all_goals
      refine tl_want rfl rfl rfl (oj_val (y_move (fe_t rfl)) ?_)
      refine tl_want rfl rfl rfl (oj_val (y_gtr (fe_t rfl) fe_c) ?_)
      refine tl_step rfl (oj_val (y_pickf (fe_t rfl) (fe_t rfl)) ?_)
      refine tl_step rfl (oj_val (y_move (fe_t rfl)) ?_)
      refine tl_splitp (d := 55) rfl (fun hq3 => ?_) (fun hq4 => ?_)
      · try (exfalso; omega)
        all_goals
          refine tl_skip rfl rfl rfl rfl ?_
          refine tl_skip rfl rfl rfl rfl ?_
          refine tl_skip rfl rfl rfl rfl ?_
          refine tl_step rfl (oj_val (y_pickt (fe_t rfl) fe_c) ?_)
          refine tl_step rfl (oj_val (y_move (fe_t rfl)) ?_)
          refine tl_skip rfl rfl rfl rfl ?_
          refine tl_skip rfl rfl rfl rfl ?_
          refine tl_skip rfl rfl rfl rfl ?_
          refine tl_step rfl (oj_val (y_pickt (fe_t rfl) fe_c) ?_)
          refine tl_nil ?_
          refine tx_then ?_
          exfalso; omega
      · try (exfalso; omega)
        all_goals
          refine tl_want rfl rfl rfl (oj_val (y_fieldAddr (td := 3) Try.underlying81 rfl rfl Try.sizeOf3 (o' := 1) rfl (fe_t rfl)) ?_)
          refine tl_want rfl rfl rfl (oj_val (y_ldb 4 Try.isAgg3 (fe_t rfl) rfl rfl) ?_)
          refine tl_want rfl rfl rfl (oj_val (y_lss (fe_t rfl) fe_c) ?_)
          refine tl_step rfl (oj_val (y_pickf (fe_t rfl) (fe_t rfl)) ?_)
          refine tl_step rfl (oj_val (y_move (fe_t rfl)) ?_)
          refine tl_splitp (d := 60) rfl (fun hq5 => ?_) (fun hq6 => ?_)
          · try (exfalso; omega)
            all_goals
              refine tl_skip rfl rfl rfl rfl ?_
              refine tl_skip rfl rfl rfl rfl ?_
              refine tl_skip rfl rfl rfl rfl ?_
              refine tl_step rfl (oj_val (y_pickt (fe_t rfl) fe_c) ?_)
              refine tl_nil ?_
              refine tx_then ?_
              exfalso; omega
          · try (exfalso; omega)
            all_goals
              refine tl_want rfl rfl rfl (oj_val (y_fieldAddr (td := 3) Try.underlying81 rfl rfl Try.sizeOf3 (o' := 1) rfl (fe_t rfl)) ?_)
              refine tl_want rfl rfl rfl (oj_val (y_ldb 4 Try.isAgg3 (fe_t rfl) rfl rfl) ?_)
              refine tl_want rfl rfl rfl (oj_val (y_gtr (fe_t rfl) fe_c) ?_)
              refine tl_step rfl (oj_val (y_pickf (fe_t rfl) (fe_t rfl)) ?_)
              refine tl_nil ?_
              refine tx_then ?_
              refine tr_condp (fe_t rfl) (fun hq7 => ?_) (fun hq8 => ?_)
              · exfalso; omega
              · try (exfalso; omega)
                all_goals
                  refine tr_seq ?_
                  refine tr_region ?_
                  refine tl_step rfl (oj_val (y_move (fe_t rfl)) ?_)
                  refine tl_step rfl (oj_val (y_neq (fe_t rfl) fe_c) ?_)
                  refine tl_step rfl (oj_val (y_move (fe_t rfl)) ?_)
                  refine tl_splitp (d := 73) rfl (fun hq9 => ?_) (fun hq10 => ?_)
                  · try (exfalso; omega)
                    all_goals
                      refine tl_skip rfl rfl rfl rfl ?_
                      refine tl_skip rfl rfl rfl rfl ?_
                      refine tl_skip rfl rfl rfl rfl ?_
                      refine tl_skip rfl rfl rfl rfl ?_
                      refine tl_skip rfl rfl rfl rfl ?_
                      refine tl_skip rfl rfl rfl rfl ?_
                      refine tl_skip rfl rfl rfl rfl ?_
                      refine tl_step rfl (oj_val (y_pickt (fe_t rfl) fe_c) ?_)
                      refine tl_nil ?_
                      refine tx_then ?_
                      exfalso; omega
                  · try (exfalso; omega)
                    all_goals
                      refine tl_want rfl rfl rfl (oj_val (y_move (fe_t rfl)) ?_)
                      refine tl_want rfl rfl rfl (oj_val (y_move (fe_t rfl)) ?_)
                      refine tl_want rfl rfl rfl (oj_val (y_fieldAddr (td := 3) Try.underlying81 rfl rfl Try.sizeOf3 (o' := 1) rfl (fe_t rfl)) ?_)
                      refine tl_want rfl rfl rfl (oj_val (y_ldb 4 Try.isAgg3 (fe_t rfl) rfl rfl) ?_)
                      refine tl_want rfl rfl rfl (oj_val (y_move (fe_t rfl)) ?_)
                      refine tl_want rfl rfl rfl (oj_callv Try.call62 fe_f (fel_cons (fe_t rfl) (fel_cons (fe_t rfl) (fel_cons (fe_t rfl) fel_nil))) (fun w' hS => vplace_ok w' (by omega) (by omega) (by omega) (by omega) i0 i1) ?_)
                      refine tl_want rfl rfl rfl (oj_val (y_neq (fe_t rfl) (fe_t rfl)) ?_)
                      refine tl_step rfl (oj_val (y_pickf (fe_t rfl) (fe_t rfl)) ?_)
                      refine tl_nil ?_
                      refine tx_then ?_
                      refine tr_condp (fe_t rfl) (fun hq11 => ?_) (fun hq12 => ?_)
                      · exfalso; omega
                      · try (exfalso; omega)
                        all_goals
                          refine tr_skip ?_
                          refine tx_then ?_
                          refine tr_seq ?_
                          refine tr_seq ?_
                          refine tr_draw (sel _ [0, 1, 2, 3, 4]) (fun w h => h.sel _ rfl (by decide)) rfl ?_
                          refine ta_float (i := 0) rfl (by kernel_rfl) (wants_none rfl) (yq_of (y_ldbA 4 Try.isAgg81 Try.sizeOf81 (fe_t rfl) rfl rfl rfl)) ?_
                          refine ta_float (i := 1) rfl (by kernel_rfl) (wants_none rfl) (yq_call Try.call63 fe_f (fel_cons (fe_t rfl) fel_nil) (fun w' hS => of_bel (Sketch.right_yes A n c w' (Rd.below hr hS.below) hn (by omega) va))) ?_
                          refine ta_float (i := 2) rfl (by kernel_rfl) (wants_none rfl) (yq_of (y_ldbA 4 Try.isAgg81 Try.sizeOf81 (fe_t rfl) rfl rfl rfl)) ?_
                          refine ta_float (i := 3) rfl (by kernel_rfl) (wants_none rfl) (yq_call Try.call64 fe_f (fel_cons (fe_t rfl) fel_nil) (fun w' hS => of_bel (Sketch.vright_yes A n c w' (Rd.below hr hS.below) hn (by omega) va))) ?_
                          refine ta_float (i := 4) rfl (by kernel_rfl) (wants_none rfl) (yq_of (y_nebb Try.underlying4 (fe_t rfl) (fe_t rfl))) ?_
                          refine ta_float (i := 5) rfl (by kernel_rfl) (wants_none rfl) (yq_of (y_move (fe_t rfl))) ?_
                          refine ta_float (i := 6) rfl (by kernel_rfl) (wants_t rfl rfl rfl) (yq_of (y_move (fe_t rfl))) ?_
                          refine ta_float (i := 7) rfl (by kernel_rfl) (wants_t rfl rfl rfl) (yq_of (y_move (fe_t rfl))) ?_
                          refine ta_float (i := 8) rfl (by kernel_rfl) (wants_t rfl rfl rfl) (yq_of (y_neq (fe_t rfl) (fe_t rfl))) ?_
                          refine ta_float (i := 9) rfl (by kernel_rfl) (wants_none rfl) (yq_of (y_pickf (fe_t rfl) (fe_t rfl))) ?_
                          refine ta_float (i := 10) rfl (by kernel_rfl) (wants_none rfl) (yq_of (y_move (fe_t rfl))) ?_
                          refine ta_splitp (d := 92) rfl (fun hq13 => ?_) (fun hq14 => ?_)
                          · try (exfalso; omega)
                            all_goals
                              refine ta_skip (i := 11) rfl (by kernel_rfl) (wants_f rfl rfl rfl rfl) ?_
                              refine ta_skip (i := 12) rfl (by kernel_rfl) (wants_f rfl rfl rfl rfl) ?_
                              refine ta_skip (i := 13) rfl (by kernel_rfl) (wants_f rfl rfl rfl rfl) ?_
                              refine ta_skip (i := 14) rfl (by kernel_rfl) (wants_f rfl rfl rfl rfl) ?_
                              refine ta_float (i := 15) rfl (by kernel_rfl) (wants_none rfl) (yq_of (y_pickt (fe_t rfl) fe_c)) ?_
                              refine ta_done (by kernel_rfl) ?_
                              refine tx_then ?_
                              refine tr_condt (fe_t rfl) ?_
                              refine tr_seq ?_
                              refine tr_region ?_
                              refine tl_step rfl (oj_val (y_assign fe_c) ?_)
                              refine tl_nil ?_
                              refine tx_then ?_
                              refine tr_ret ?_
                              refine tx_then_ret ?_
                              refine tx_ret (res1 Try.results8 (rok_t rfl)) (fun w' hS => ?_)
                              exact ⟨ret_bool (by first | rfl | (simp; done)), hS.pick [] _ rfl (by decide)⟩
                          · try (exfalso; omega)
                            all_goals
                              refine ta_float (i := 11) rfl (by kernel_rfl) (wants_t rfl rfl rfl) (yq_of (y_ldbA 2 Try.isAgg81 Try.sizeOf81 (fe_t rfl) rfl rfl rfl)) ?_
                              refine ta_float (i := 12) rfl (by kernel_rfl) (wants_t rfl rfl rfl) (yq_of (y_ldbA 0 Try.isAgg81 Try.sizeOf81 (fe_t rfl) rfl rfl rfl)) ?_
                              refine ta_float (i := 13) rfl (by kernel_rfl) (wants_t rfl rfl rfl) (yq_call Try.call65 fe_f (fel_cons (fe_t rfl) (fel_cons (fe_t rfl) fel_nil)) (fun w' hS => same_vs Ah Vh w' (hS.holds 3 _ rfl) (hS.holds 1 _ rfl) (by omega) (by rw [upd_len]; omega))) ?_
                              refine ta_float (i := 14) rfl (by kernel_rfl) (wants_t rfl rfl rfl) (yq_of (y_not (fe_t rfl))) ?_
                              refine ta_float (i := 15) rfl (by kernel_rfl) (wants_none rfl) (yq_of (y_pickf (fe_t rfl) (fe_t rfl))) ?_
                              refine ta_done (by kernel_rfl) ?_
                              refine tx_then ?_
                              refine tr_condf (fe_t rfl) ?_
                              refine tr_skip ?_
                              refine tx_then ?_
                              refine tr_seq ?_
                              refine tr_seq ?_
                              refine tr_region ?_
                              refine tl_step rfl (oj_val (y_ldbA 4 Try.isAgg81 Try.sizeOf81 (fe_t rfl) rfl rfl rfl) ?_)
                              refine tl_step rfl (oj_callv Try.call64 fe_f (fel_cons (fe_t rfl) fel_nil) (fun w' hS => of_bel (Sketch.vright_yes A n c w' (Rd.below hr hS.below) hn (by omega) va)) ?_)
                              refine tl_step rfl (oj_val (y_not (fe_t rfl)) ?_)
                              refine tl_nil ?_
                              refine tx_then ?_
                              refine tr_condf (fe_t rfl) ?_
                              refine tr_skip ?_
                              refine tx_then ?_
                              refine tr_seq ?_
                              refine tr_region ?_
                              refine tl_step rfl (oj_val (y_move (fe_t rfl)) ?_)
                              refine tl_step rfl (oj_val (y_eq (fe_t rfl) fe_c) ?_)
                              refine tl_step rfl (oj_val (y_move (fe_t rfl)) ?_)
                              refine tl_splitp (d := 109) rfl (fun hq15 => ?_) (fun hq16 => ?_)
                              · try (exfalso; omega)
                                all_goals
                                  refine tl_want rfl rfl rfl (oj_val (y_move (fe_t rfl)) ?_)
                                  refine tl_want rfl rfl rfl (oj_val (y_ldbA 4 Try.isAgg81 Try.sizeOf81 (fe_t rfl) rfl rfl rfl) ?_)
                                  refine tl_want rfl rfl rfl (oj_val (y_move (fe_t rfl)) ?_)
                                  refine tl_want rfl rfl rfl (oj_callv Try.call66 fe_f (fel_cons (fe_t rfl) (fel_cons (fe_t rfl) fel_nil)) (fun w' hS => vcount_ok R A n c zs w' (Rd.below hr hS.below) hn va i0 i1) ?_)
                                  refine tl_want rfl rfl rfl (oj_val (y_eq (fe_t rfl) (fe_t rfl)) ?_)
                                  refine tl_step rfl (oj_val (y_pickt (fe_t rfl) (fe_t rfl)) ?_)
                                  refine tl_step rfl (oj_val (y_assign (fe_t rfl)) ?_)
                                  refine tl_nil ?_
                                  refine tx_then ?_
                                  refine tr_ret ?_
                                  refine tx_ret (res1 Try.results8 (rok_t rfl)) (fun w' hS => ?_)
                                  exact ⟨ret_bool (by first | rfl | (simp; done)), hS.pick [] _ rfl (by decide)⟩
                              · try (exfalso; omega)
                                all_goals
                                  refine tl_skip rfl rfl rfl rfl ?_
                                  refine tl_skip rfl rfl rfl rfl ?_
                                  refine tl_skip rfl rfl rfl rfl ?_
                                  refine tl_skip rfl rfl rfl rfl ?_
                                  refine tl_skip rfl rfl rfl rfl ?_
                                  refine tl_step rfl (oj_val (y_pickf (fe_t rfl) fe_c) ?_)
                                  refine tl_step rfl (oj_val (y_assign (fe_t rfl)) ?_)
                                  refine tl_nil ?_
                                  refine tx_then ?_
                                  refine tr_ret ?_
                                  refine tx_ret (res1 Try.results8 (rok_t rfl)) (fun w' hS => ?_)
                                  exact ⟨ret_bool (by first | rfl | (simp; done)), hS.pick [] _ rfl (by decide)⟩

set_option maxRecDepth 100000 in
set_option maxHeartbeats 4000000 in
theorem law_x_bad {r width row id nn : Int} {cf : Bool} (A : Option Addr) (n c : Nat) (zs : List Int) (w : World) (hr : Rd w A (zs.map (.int .i64))) (hn : zs.length = n) (va : Sketch.vright r width zs = false) (i0 : 0 ≤ id) (i1 : id < 18446744073709551616) (hpk : row < 0 ∨ 7 < row ∨ width < 1 ∨ 64 < width) (ln : n ≤ 140737488355328) :
    Calls Try.prog 8 #[.agg #[(.int .i64 r), (.int .i64 width), .slice A n c], (.int .i64 row), .int .u64 id, (.int .i64 nn), .bool cf] w fun e w' => e = .returned (.bool true) ∧ St w w' [] := by
  refine calls_tr Try.func8 Try.ntmps8 rfl rfl (St.refl _) ?_
  refine tr_seq ?_
  refine tr_region ?_
  refine tl_step rfl (oj_box (fe_t rfl) (fun sb => ?_))
  refine tl_step rfl (oj_val (y_assign fe_c) ?_)
  refine tl_nil ?_
  refine tx_then ?_
  refine tr_seq ?_
  refine tr_region ?_
  refine tl_step rfl (oj_val (y_move (fe_t rfl)) ?_)
  refine tl_step rfl (oj_val (y_fieldAddr (td := 3) Try.underlying81 rfl rfl Try.sizeOf3 (o' := 1) rfl (fe_t rfl)) ?_)
  refine tl_step rfl (oj_val (y_ldb 0 Try.isAgg3 (fe_t rfl) rfl rfl) ?_)
  refine tl_step rfl (oj_val (y_move (fe_t rfl)) ?_)
  refine tl_step rfl (oj_callv Try.call58 fe_f (fel_cons (fe_t rfl) (fel_cons (fe_t rfl) (fel_cons (fe_t rfl) fel_nil))) (fun w' hS => place_bad _ _ _ w' hpk) ?_)
  refine tl_step rfl (oj_val (y_move (fe_t rfl)) ?_)
  refine tl_step rfl (oj_val (y_extract (fe_t rfl) rfl) ?_)
  refine tl_step rfl (oj_val (y_extract (fe_t rfl) rfl) ?_)
  refine tl_step rfl (oj_val (y_assign (fe_t rfl)) ?_)
  refine tl_step rfl (oj_val (y_assign (fe_t rfl)) ?_)
  refine tl_nil ?_
  refine tx_then ?_
  refine tr_seq ?_
  refine tr_region ?_
  refine tl_step rfl (oj_val (y_ldbA 0 Try.isAgg81 Try.sizeOf81 (fe_t rfl) rfl rfl rfl) ?_)
  refine tl_step rfl (oj_val (y_move (fe_t rfl)) ?_)
  refine tl_step rfl (oj_callv Try.call59 fe_f (fel_cons (fe_t rfl) (fel_cons (fe_t rfl) fel_nil)) (fun w' hS => count_bad A n c zs w' (Rd.below hr hS.below) hn va (by omega)) ?_)
  refine tl_step rfl (oj_val (y_move (fe_t rfl)) ?_)
  refine tl_step rfl (oj_val (y_extract (fe_t rfl) rfl) ?_)
  refine tl_step rfl (oj_val (y_extract (fe_t rfl) rfl) ?_)
  refine tl_step rfl (oj_val (y_assign (fe_t rfl)) ?_)
  refine tl_step rfl (oj_val (y_assign (fe_t rfl)) ?_)
  refine tl_nil ?_
  refine tx_then ?_
  refine tr_seq ?_
  refine tr_region ?_
  refine tl_step rfl (oj_val (y_ldbA 0 Try.isAgg81 Try.sizeOf81 (fe_t rfl) rfl rfl rfl) ?_)
  refine tl_step rfl (oj_val (y_move (fe_t rfl)) ?_)
  refine tl_step rfl (oj_val (y_move (fe_t rfl)) ?_)
  refine tl_step rfl (oj_val (y_move (fe_t rfl)) ?_)
  refine tl_step rfl (oj_callv Try.call60 fe_f (fel_cons (fe_t rfl) (fel_cons (fe_t rfl) (fel_cons (fe_t rfl) (fel_cons (fe_t rfl) fel_nil)))) (fun w' hS => Aadd_bad A n c zs w' (Rd.below hr hS.below) hn va (by omega)) ?_)
  refine tl_step rfl (oj_val (y_move (fe_t rfl)) ?_)
  refine tl_step rfl (oj_val (y_extract (fe_t rfl) rfl) ?_)
  refine tl_step rfl (oj_val (y_extract (fe_t rfl) rfl) ?_)
  refine tl_step rfl (oj_alloc Try.zeroValue81 (fun ab => ?_))
  refine tl_step rfl (oj_storeW 0 Try.sizeOf81 (fe_t rfl) (fe_t rfl) rfl rfl rfl rfl rfl (?_))
  refine tl_step rfl (oj_val (y_assign (fe_t rfl)) ?_)
  refine tl_nil ?_
  refine tx_then ?_
  refine tr_seq ?_
  refine tr_region ?_
  refine tl_step rfl (oj_val (y_ldbA 1 Try.isAgg81 Try.sizeOf81 (fe_t rfl) rfl rfl rfl) ?_)
  refine tl_step rfl (oj_val (y_move (fe_t rfl)) ?_)
  refine tl_step rfl (oj_val (y_move (fe_t rfl)) ?_)
  refine tl_step rfl (oj_val (y_move (fe_t rfl)) ?_)
  refine tl_step rfl (oj_callv Try.call61 fe_f (fel_cons (fe_t rfl) (fel_cons (fe_t rfl) (fel_cons (fe_t rfl) (fel_cons (fe_t rfl) fel_nil)))) (fun w' hS => Vadd_bad A n c zs w' (Rd.below hr hS.below) hn va (by omega)) ?_)
  refine tl_step rfl (oj_val (y_move (fe_t rfl)) ?_)
  refine tl_step rfl (oj_val (y_extract (fe_t rfl) rfl) ?_)
  refine tl_step rfl (oj_val (y_extract (fe_t rfl) rfl) ?_)
  refine tl_step rfl (oj_alloc Try.zeroValue81 (fun bb => ?_))
  refine tl_step rfl (oj_storeW 0 Try.sizeOf81 (fe_t rfl) (fe_t rfl) rfl rfl rfl rfl rfl (?_))
  refine tl_step rfl (oj_val (y_assign (fe_t rfl)) ?_)
  refine tl_nil ?_
  refine tx_then ?_
  refine tr_seq ?_
  refine tr_seq ?_
  refine tr_region ?_
  refine tl_step rfl (oj_val (y_move (fe_t rfl)) ?_)
  refine tl_step rfl (oj_val (y_lss (fe_t rfl) fe_c) ?_)
  refine tl_step rfl (oj_val (y_move (fe_t rfl)) ?_)
  refine tl_splitp (d := 51) rfl (fun hq1 => ?_) (fun hq2 => ?_)
  · try (exfalso; omega)
    all_goals
      refine tl_skip rfl rfl rfl rfl ?_
      refine tl_skip rfl rfl rfl rfl ?_
      refine tl_step rfl (oj_val (y_pickt (fe_t rfl) fe_c) ?_)
      refine tl_step rfl (oj_val (y_move (fe_t rfl)) ?_)
      refine tl_skip rfl rfl rfl rfl ?_
      refine tl_skip rfl rfl rfl rfl ?_
      refine tl_skip rfl rfl rfl rfl ?_
      refine tl_step rfl (oj_val (y_pickt (fe_t rfl) fe_c) ?_)
      refine tl_step rfl (oj_val (y_move (fe_t rfl)) ?_)
      refine tl_skip rfl rfl rfl rfl ?_
      refine tl_skip rfl rfl rfl rfl ?_
      refine tl_skip rfl rfl rfl rfl ?_
      refine tl_step rfl (oj_val (y_pickt (fe_t rfl) fe_c) ?_)
      refine tl_nil ?_
      refine tx_then ?_
      refine tr_condt (fe_t rfl) ?_
      refine tr_seq ?_
      refine tr_region ?_
      refine tl_step rfl (oj_val (y_move (fe_t rfl)) ?_)
      refine tl_step rfl (oj_val (y_neq (fe_t rfl) fe_c) ?_)
      refine tl_step rfl (oj_val (y_move (fe_t rfl)) ?_)
      refine tl_splitp (d := 67) rfl (fun hq3 => ?_) (fun hq4 => ?_)
      · try (exfalso; omega)
        all_goals
          refine tl_skip rfl rfl rfl rfl ?_
          refine tl_skip rfl rfl rfl rfl ?_
          refine tl_step rfl (oj_val (y_pickt (fe_t rfl) fe_c) ?_)
          refine tl_nil ?_
          refine tx_then ?_
          exfalso; omega
      · try (exfalso; omega)
        all_goals
          refine tl_want rfl rfl rfl (oj_val (y_move (fe_t rfl)) ?_)
          refine tl_want rfl rfl rfl (oj_val (y_neq (fe_t rfl) fe_c) ?_)
          refine tl_step rfl (oj_val (y_pickf (fe_t rfl) (fe_t rfl)) ?_)
          refine tl_nil ?_
          refine tx_then ?_
          refine tr_condp (fe_t rfl) (fun hq5 => ?_) (fun hq6 => ?_)
          · exfalso; omega
          · try (exfalso; omega)
            all_goals
              refine tr_skip ?_
              refine tx_then ?_
              refine tr_seq ?_
              refine tr_seq ?_
              refine tr_draw (sel _ [0, 1, 2]) (fun w h => h.sel _ rfl (by decide)) rfl ?_
              refine ta_float (i := 0) rfl (by kernel_rfl) (wants_none rfl) (yq_of (y_ldbA 2 Try.isAgg81 Try.sizeOf81 (fe_t rfl) rfl rfl rfl)) ?_
              refine ta_float (i := 1) rfl (by kernel_rfl) (wants_none rfl) (yq_call Try.call63 fe_f (fel_cons (fe_t rfl) fel_nil) (fun w' hS => of_bel (Sketch.right_no A n c w' (Rd.below hr hS.below) hn (by omega) va))) ?_
              refine ta_float (i := 2) rfl (by kernel_rfl) (wants_none rfl) (yq_of (y_ldbA 2 Try.isAgg81 Try.sizeOf81 (fe_t rfl) rfl rfl rfl)) ?_
              refine ta_float (i := 3) rfl (by kernel_rfl) (wants_none rfl) (yq_call Try.call64 fe_f (fel_cons (fe_t rfl) fel_nil) (fun w' hS => of_bel (Sketch.vright_no A n c w' (Rd.below hr hS.below) hn (by omega) va))) ?_
              refine ta_float (i := 4) rfl (by kernel_rfl) (wants_none rfl) (yq_of (y_nebb Try.underlying4 (fe_t rfl) (fe_t rfl))) ?_
              refine ta_float (i := 5) rfl (by kernel_rfl) (wants_none rfl) (yq_of (y_move (fe_t rfl))) ?_
              refine ta_float (i := 6) rfl (by kernel_rfl) (wants_t rfl rfl rfl) (yq_of (y_move (fe_t rfl))) ?_
              refine ta_float (i := 7) rfl (by kernel_rfl) (wants_t rfl rfl rfl) (yq_of (y_move (fe_t rfl))) ?_
              refine ta_float (i := 8) rfl (by kernel_rfl) (wants_t rfl rfl rfl) (yq_of (y_neq (fe_t rfl) (fe_t rfl))) ?_
              refine ta_float (i := 9) rfl (by kernel_rfl) (wants_none rfl) (yq_of (y_pickf (fe_t rfl) (fe_t rfl))) ?_
              refine ta_float (i := 10) rfl (by kernel_rfl) (wants_none rfl) (yq_of (y_move (fe_t rfl))) ?_
              refine ta_splitp (d := 92) rfl (fun hq7 => ?_) (fun hq8 => ?_)
              · try (exfalso; omega)
                all_goals
                  refine ta_skip (i := 11) rfl (by kernel_rfl) (wants_f rfl rfl rfl rfl) ?_
                  refine ta_skip (i := 12) rfl (by kernel_rfl) (wants_f rfl rfl rfl rfl) ?_
                  refine ta_skip (i := 13) rfl (by kernel_rfl) (wants_f rfl rfl rfl rfl) ?_
                  refine ta_skip (i := 14) rfl (by kernel_rfl) (wants_f rfl rfl rfl rfl) ?_
                  refine ta_float (i := 15) rfl (by kernel_rfl) (wants_none rfl) (yq_of (y_pickt (fe_t rfl) fe_c)) ?_
                  refine ta_done (by kernel_rfl) ?_
                  refine tx_then ?_
                  refine tr_condt (fe_t rfl) ?_
                  refine tr_seq ?_
                  refine tr_region ?_
                  refine tl_step rfl (oj_val (y_assign fe_c) ?_)
                  refine tl_nil ?_
                  refine tx_then ?_
                  refine tr_ret ?_
                  refine tx_then_ret ?_
                  refine tx_ret (res1 Try.results8 (rok_t rfl)) (fun w' hS => ?_)
                  exact ⟨ret_bool (by first | rfl | (simp; done)), hS.pick [] _ rfl (by decide)⟩
              · try (exfalso; omega)
                all_goals
                  refine ta_float (i := 11) rfl (by kernel_rfl) (wants_t rfl rfl rfl) (yq_of (y_ldbA 1 Try.isAgg81 Try.sizeOf81 (fe_t rfl) rfl rfl rfl)) ?_
                  refine ta_float (i := 12) rfl (by kernel_rfl) (wants_t rfl rfl rfl) (yq_of (y_ldbA 0 Try.isAgg81 Try.sizeOf81 (fe_t rfl) rfl rfl rfl)) ?_
                  refine ta_float (i := 13) rfl (by kernel_rfl) (wants_t rfl rfl rfl) (yq_call Try.call65 fe_f (fel_cons (fe_t rfl) (fel_cons (fe_t rfl) fel_nil)) (fun w' hS => of_bel (Sketch.same_any 0 0 none none 0 0 0 [] w' Rd.nil Rd.nil rfl (by omega)))) ?_
                  refine ta_float (i := 14) rfl (by kernel_rfl) (wants_t rfl rfl rfl) (yq_of (y_not (fe_t rfl))) ?_
                  refine ta_float (i := 15) rfl (by kernel_rfl) (wants_none rfl) (yq_of (y_pickf (fe_t rfl) (fe_t rfl))) ?_
                  refine ta_done (by kernel_rfl) ?_
                  refine tx_then ?_
                  refine tr_condf (fe_t rfl) ?_
                  refine tr_skip ?_
                  refine tx_then ?_
                  refine tr_seq ?_
                  refine tr_seq ?_
                  refine tr_region ?_
                  refine tl_step rfl (oj_val (y_ldbA 2 Try.isAgg81 Try.sizeOf81 (fe_t rfl) rfl rfl rfl) ?_)
                  refine tl_step rfl (oj_callv Try.call64 fe_f (fel_cons (fe_t rfl) fel_nil) (fun w' hS => of_bel (Sketch.vright_no A n c w' (Rd.below hr hS.below) hn (by omega) va)) ?_)
                  refine tl_step rfl (oj_val (y_not (fe_t rfl)) ?_)
                  refine tl_nil ?_
                  refine tx_then ?_
                  refine tr_condt (fe_t rfl) ?_
                  refine tr_seq ?_
                  refine tr_region ?_
                  refine tl_step rfl (oj_val (y_move (fe_t rfl)) ?_)
                  refine tl_step rfl (oj_val (y_eq (fe_t rfl) fe_c) ?_)
                  refine tl_step rfl (oj_val (y_move (fe_t rfl)) ?_)
                  refine tl_splitp (d := 103) rfl (fun hq9 => ?_) (fun hq10 => ?_)
                  · try (exfalso; omega)
                    all_goals
                      refine tl_want rfl rfl rfl (oj_val (y_move (fe_t rfl)) ?_)
                      refine tl_want rfl rfl rfl (oj_val (y_eq (fe_t rfl) fe_c) ?_)
                      refine tl_step rfl (oj_val (y_pickt (fe_t rfl) (fe_t rfl)) ?_)
                      refine tl_step rfl (oj_val (y_assign (fe_t rfl)) ?_)
                      refine tl_nil ?_
                      refine tx_then ?_
                      refine tr_ret ?_
                      refine tx_then_ret ?_
                      refine tx_ret (res1 Try.results8 (rok_t rfl)) (fun w' hS => ?_)
                      exact ⟨ret_bool (by first | rfl | (simp; done)), hS.pick [] _ rfl (by decide)⟩
                  · try (exfalso; omega)
                    all_goals
                      refine tl_skip rfl rfl rfl rfl ?_
                      refine tl_skip rfl rfl rfl rfl ?_
                      refine tl_step rfl (oj_val (y_pickf (fe_t rfl) fe_c) ?_)
                      refine tl_step rfl (oj_val (y_assign (fe_t rfl)) ?_)
                      refine tl_nil ?_
                      refine tx_then ?_
                      refine tr_ret ?_
                      refine tx_then_ret ?_
                      refine tx_ret (res1 Try.results8 (rok_t rfl)) (fun w' hS => ?_)
                      exact ⟨ret_bool (by first | rfl | (simp; done)), hS.pick [] _ rfl (by decide)⟩
  · try (exfalso; omega)
    all_goals
      refine tl_want rfl rfl rfl (oj_val (y_move (fe_t rfl)) ?_)
      refine tl_want rfl rfl rfl (oj_val (y_gtr (fe_t rfl) fe_c) ?_)
      refine tl_step rfl (oj_val (y_pickf (fe_t rfl) (fe_t rfl)) ?_)
      refine tl_step rfl (oj_val (y_move (fe_t rfl)) ?_)
      refine tl_splitp (d := 55) rfl (fun hq11 => ?_) (fun hq12 => ?_)
      · try (exfalso; omega)
        all_goals
          refine tl_skip rfl rfl rfl rfl ?_
          refine tl_skip rfl rfl rfl rfl ?_
          refine tl_skip rfl rfl rfl rfl ?_
          refine tl_step rfl (oj_val (y_pickt (fe_t rfl) fe_c) ?_)
          refine tl_step rfl (oj_val (y_move (fe_t rfl)) ?_)
          refine tl_skip rfl rfl rfl rfl ?_
          refine tl_skip rfl rfl rfl rfl ?_
          refine tl_skip rfl rfl rfl rfl ?_
          refine tl_step rfl (oj_val (y_pickt (fe_t rfl) fe_c) ?_)
          refine tl_nil ?_
          refine tx_then ?_
          refine tr_condt (fe_t rfl) ?_
          refine tr_seq ?_
          refine tr_region ?_
          refine tl_step rfl (oj_val (y_move (fe_t rfl)) ?_)
          refine tl_step rfl (oj_val (y_neq (fe_t rfl) fe_c) ?_)
          refine tl_step rfl (oj_val (y_move (fe_t rfl)) ?_)
          refine tl_splitp (d := 67) rfl (fun hq13 => ?_) (fun hq14 => ?_)
          · try (exfalso; omega)
            all_goals
              refine tl_skip rfl rfl rfl rfl ?_
              refine tl_skip rfl rfl rfl rfl ?_
              refine tl_step rfl (oj_val (y_pickt (fe_t rfl) fe_c) ?_)
              refine tl_nil ?_
              refine tx_then ?_
              exfalso; omega
          · try (exfalso; omega)
            all_goals
              refine tl_want rfl rfl rfl (oj_val (y_move (fe_t rfl)) ?_)
              refine tl_want rfl rfl rfl (oj_val (y_neq (fe_t rfl) fe_c) ?_)
              refine tl_step rfl (oj_val (y_pickf (fe_t rfl) (fe_t rfl)) ?_)
              refine tl_nil ?_
              refine tx_then ?_
              refine tr_condp (fe_t rfl) (fun hq15 => ?_) (fun hq16 => ?_)
              · exfalso; omega
              · try (exfalso; omega)
                all_goals
                  refine tr_skip ?_
                  refine tx_then ?_
                  refine tr_seq ?_
                  refine tr_seq ?_
                  refine tr_draw (sel _ [0, 1, 2]) (fun w h => h.sel _ rfl (by decide)) rfl ?_
                  refine ta_float (i := 0) rfl (by kernel_rfl) (wants_none rfl) (yq_of (y_ldbA 2 Try.isAgg81 Try.sizeOf81 (fe_t rfl) rfl rfl rfl)) ?_
                  refine ta_float (i := 1) rfl (by kernel_rfl) (wants_none rfl) (yq_call Try.call63 fe_f (fel_cons (fe_t rfl) fel_nil) (fun w' hS => of_bel (Sketch.right_no A n c w' (Rd.below hr hS.below) hn (by omega) va))) ?_
                  refine ta_float (i := 2) rfl (by kernel_rfl) (wants_none rfl) (yq_of (y_ldbA 2 Try.isAgg81 Try.sizeOf81 (fe_t rfl) rfl rfl rfl)) ?_
                  refine ta_float (i := 3) rfl (by kernel_rfl) (wants_none rfl) (yq_call Try.call64 fe_f (fel_cons (fe_t rfl) fel_nil) (fun w' hS => of_bel (Sketch.vright_no A n c w' (Rd.below hr hS.below) hn (by omega) va))) ?_
                  refine ta_float (i := 4) rfl (by kernel_rfl) (wants_none rfl) (yq_of (y_nebb Try.underlying4 (fe_t rfl) (fe_t rfl))) ?_
                  refine ta_float (i := 5) rfl (by kernel_rfl) (wants_none rfl) (yq_of (y_move (fe_t rfl))) ?_
                  refine ta_float (i := 6) rfl (by kernel_rfl) (wants_t rfl rfl rfl) (yq_of (y_move (fe_t rfl))) ?_
                  refine ta_float (i := 7) rfl (by kernel_rfl) (wants_t rfl rfl rfl) (yq_of (y_move (fe_t rfl))) ?_
                  refine ta_float (i := 8) rfl (by kernel_rfl) (wants_t rfl rfl rfl) (yq_of (y_neq (fe_t rfl) (fe_t rfl))) ?_
                  refine ta_float (i := 9) rfl (by kernel_rfl) (wants_none rfl) (yq_of (y_pickf (fe_t rfl) (fe_t rfl))) ?_
                  refine ta_float (i := 10) rfl (by kernel_rfl) (wants_none rfl) (yq_of (y_move (fe_t rfl))) ?_
                  refine ta_splitp (d := 92) rfl (fun hq17 => ?_) (fun hq18 => ?_)
                  · try (exfalso; omega)
                    all_goals
                      refine ta_skip (i := 11) rfl (by kernel_rfl) (wants_f rfl rfl rfl rfl) ?_
                      refine ta_skip (i := 12) rfl (by kernel_rfl) (wants_f rfl rfl rfl rfl) ?_
                      refine ta_skip (i := 13) rfl (by kernel_rfl) (wants_f rfl rfl rfl rfl) ?_
                      refine ta_skip (i := 14) rfl (by kernel_rfl) (wants_f rfl rfl rfl rfl) ?_
                      refine ta_float (i := 15) rfl (by kernel_rfl) (wants_none rfl) (yq_of (y_pickt (fe_t rfl) fe_c)) ?_
                      refine ta_done (by kernel_rfl) ?_
                      refine tx_then ?_
                      refine tr_condt (fe_t rfl) ?_
                      refine tr_seq ?_
                      refine tr_region ?_
                      refine tl_step rfl (oj_val (y_assign fe_c) ?_)
                      refine tl_nil ?_
                      refine tx_then ?_
                      refine tr_ret ?_
                      refine tx_then_ret ?_
                      refine tx_ret (res1 Try.results8 (rok_t rfl)) (fun w' hS => ?_)
                      exact ⟨ret_bool (by first | rfl | (simp; done)), hS.pick [] _ rfl (by decide)⟩
                  · try (exfalso; omega)
                    all_goals
                      refine ta_float (i := 11) rfl (by kernel_rfl) (wants_t rfl rfl rfl) (yq_of (y_ldbA 1 Try.isAgg81 Try.sizeOf81 (fe_t rfl) rfl rfl rfl)) ?_
                      refine ta_float (i := 12) rfl (by kernel_rfl) (wants_t rfl rfl rfl) (yq_of (y_ldbA 0 Try.isAgg81 Try.sizeOf81 (fe_t rfl) rfl rfl rfl)) ?_
                      refine ta_float (i := 13) rfl (by kernel_rfl) (wants_t rfl rfl rfl) (yq_call Try.call65 fe_f (fel_cons (fe_t rfl) (fel_cons (fe_t rfl) fel_nil)) (fun w' hS => of_bel (Sketch.same_any 0 0 none none 0 0 0 [] w' Rd.nil Rd.nil rfl (by omega)))) ?_
                      refine ta_float (i := 14) rfl (by kernel_rfl) (wants_t rfl rfl rfl) (yq_of (y_not (fe_t rfl))) ?_
                      refine ta_float (i := 15) rfl (by kernel_rfl) (wants_none rfl) (yq_of (y_pickf (fe_t rfl) (fe_t rfl))) ?_
                      refine ta_done (by kernel_rfl) ?_
                      refine tx_then ?_
                      refine tr_condf (fe_t rfl) ?_
                      refine tr_skip ?_
                      refine tx_then ?_
                      refine tr_seq ?_
                      refine tr_seq ?_
                      refine tr_region ?_
                      refine tl_step rfl (oj_val (y_ldbA 2 Try.isAgg81 Try.sizeOf81 (fe_t rfl) rfl rfl rfl) ?_)
                      refine tl_step rfl (oj_callv Try.call64 fe_f (fel_cons (fe_t rfl) fel_nil) (fun w' hS => of_bel (Sketch.vright_no A n c w' (Rd.below hr hS.below) hn (by omega) va)) ?_)
                      refine tl_step rfl (oj_val (y_not (fe_t rfl)) ?_)
                      refine tl_nil ?_
                      refine tx_then ?_
                      refine tr_condt (fe_t rfl) ?_
                      refine tr_seq ?_
                      refine tr_region ?_
                      refine tl_step rfl (oj_val (y_move (fe_t rfl)) ?_)
                      refine tl_step rfl (oj_val (y_eq (fe_t rfl) fe_c) ?_)
                      refine tl_step rfl (oj_val (y_move (fe_t rfl)) ?_)
                      refine tl_splitp (d := 103) rfl (fun hq19 => ?_) (fun hq20 => ?_)
                      · try (exfalso; omega)
                        all_goals
                          refine tl_want rfl rfl rfl (oj_val (y_move (fe_t rfl)) ?_)
                          refine tl_want rfl rfl rfl (oj_val (y_eq (fe_t rfl) fe_c) ?_)
                          refine tl_step rfl (oj_val (y_pickt (fe_t rfl) (fe_t rfl)) ?_)
                          refine tl_step rfl (oj_val (y_assign (fe_t rfl)) ?_)
                          refine tl_nil ?_
                          refine tx_then ?_
                          refine tr_ret ?_
                          refine tx_then_ret ?_
                          refine tx_ret (res1 Try.results8 (rok_t rfl)) (fun w' hS => ?_)
                          exact ⟨ret_bool (by first | rfl | (simp; done)), hS.pick [] _ rfl (by decide)⟩
                      · try (exfalso; omega)
                        all_goals
                          refine tl_skip rfl rfl rfl rfl ?_
                          refine tl_skip rfl rfl rfl rfl ?_
                          refine tl_step rfl (oj_val (y_pickf (fe_t rfl) fe_c) ?_)
                          refine tl_step rfl (oj_val (y_assign (fe_t rfl)) ?_)
                          refine tl_nil ?_
                          refine tx_then ?_
                          refine tr_ret ?_
                          refine tx_then_ret ?_
                          refine tx_ret (res1 Try.results8 (rok_t rfl)) (fun w' hS => ?_)
                          exact ⟨ret_bool (by first | rfl | (simp; done)), hS.pick [] _ rfl (by decide)⟩
      · try (exfalso; omega)
        all_goals
          refine tl_want rfl rfl rfl (oj_val (y_fieldAddr (td := 3) Try.underlying81 rfl rfl Try.sizeOf3 (o' := 1) rfl (fe_t rfl)) ?_)
          refine tl_want rfl rfl rfl (oj_val (y_ldb 2 Try.isAgg3 (fe_t rfl) rfl rfl) ?_)
          refine tl_want rfl rfl rfl (oj_val (y_lss (fe_t rfl) fe_c) ?_)
          refine tl_step rfl (oj_val (y_pickf (fe_t rfl) (fe_t rfl)) ?_)
          refine tl_step rfl (oj_val (y_move (fe_t rfl)) ?_)
          refine tl_splitp (d := 60) rfl (fun hq21 => ?_) (fun hq22 => ?_)
          · try (exfalso; omega)
            all_goals
              refine tl_skip rfl rfl rfl rfl ?_
              refine tl_skip rfl rfl rfl rfl ?_
              refine tl_skip rfl rfl rfl rfl ?_
              refine tl_step rfl (oj_val (y_pickt (fe_t rfl) fe_c) ?_)
              refine tl_nil ?_
              refine tx_then ?_
              refine tr_condt (fe_t rfl) ?_
              refine tr_seq ?_
              refine tr_region ?_
              refine tl_step rfl (oj_val (y_move (fe_t rfl)) ?_)
              refine tl_step rfl (oj_val (y_neq (fe_t rfl) fe_c) ?_)
              refine tl_step rfl (oj_val (y_move (fe_t rfl)) ?_)
              refine tl_splitp (d := 67) rfl (fun hq23 => ?_) (fun hq24 => ?_)
              · try (exfalso; omega)
                all_goals
                  refine tl_skip rfl rfl rfl rfl ?_
                  refine tl_skip rfl rfl rfl rfl ?_
                  refine tl_step rfl (oj_val (y_pickt (fe_t rfl) fe_c) ?_)
                  refine tl_nil ?_
                  refine tx_then ?_
                  exfalso; omega
              · try (exfalso; omega)
                all_goals
                  refine tl_want rfl rfl rfl (oj_val (y_move (fe_t rfl)) ?_)
                  refine tl_want rfl rfl rfl (oj_val (y_neq (fe_t rfl) fe_c) ?_)
                  refine tl_step rfl (oj_val (y_pickf (fe_t rfl) (fe_t rfl)) ?_)
                  refine tl_nil ?_
                  refine tx_then ?_
                  refine tr_condp (fe_t rfl) (fun hq25 => ?_) (fun hq26 => ?_)
                  · exfalso; omega
                  · try (exfalso; omega)
                    all_goals
                      refine tr_skip ?_
                      refine tx_then ?_
                      refine tr_seq ?_
                      refine tr_seq ?_
                      refine tr_draw (sel _ [0, 1, 2]) (fun w h => h.sel _ rfl (by decide)) rfl ?_
                      refine ta_float (i := 0) rfl (by kernel_rfl) (wants_none rfl) (yq_of (y_ldbA 2 Try.isAgg81 Try.sizeOf81 (fe_t rfl) rfl rfl rfl)) ?_
                      refine ta_float (i := 1) rfl (by kernel_rfl) (wants_none rfl) (yq_call Try.call63 fe_f (fel_cons (fe_t rfl) fel_nil) (fun w' hS => of_bel (Sketch.right_no A n c w' (Rd.below hr hS.below) hn (by omega) va))) ?_
                      refine ta_float (i := 2) rfl (by kernel_rfl) (wants_none rfl) (yq_of (y_ldbA 2 Try.isAgg81 Try.sizeOf81 (fe_t rfl) rfl rfl rfl)) ?_
                      refine ta_float (i := 3) rfl (by kernel_rfl) (wants_none rfl) (yq_call Try.call64 fe_f (fel_cons (fe_t rfl) fel_nil) (fun w' hS => of_bel (Sketch.vright_no A n c w' (Rd.below hr hS.below) hn (by omega) va))) ?_
                      refine ta_float (i := 4) rfl (by kernel_rfl) (wants_none rfl) (yq_of (y_nebb Try.underlying4 (fe_t rfl) (fe_t rfl))) ?_
                      refine ta_float (i := 5) rfl (by kernel_rfl) (wants_none rfl) (yq_of (y_move (fe_t rfl))) ?_
                      refine ta_float (i := 6) rfl (by kernel_rfl) (wants_t rfl rfl rfl) (yq_of (y_move (fe_t rfl))) ?_
                      refine ta_float (i := 7) rfl (by kernel_rfl) (wants_t rfl rfl rfl) (yq_of (y_move (fe_t rfl))) ?_
                      refine ta_float (i := 8) rfl (by kernel_rfl) (wants_t rfl rfl rfl) (yq_of (y_neq (fe_t rfl) (fe_t rfl))) ?_
                      refine ta_float (i := 9) rfl (by kernel_rfl) (wants_none rfl) (yq_of (y_pickf (fe_t rfl) (fe_t rfl))) ?_
                      refine ta_float (i := 10) rfl (by kernel_rfl) (wants_none rfl) (yq_of (y_move (fe_t rfl))) ?_
                      refine ta_splitp (d := 92) rfl (fun hq27 => ?_) (fun hq28 => ?_)
                      · try (exfalso; omega)
                        all_goals
                          refine ta_skip (i := 11) rfl (by kernel_rfl) (wants_f rfl rfl rfl rfl) ?_
                          refine ta_skip (i := 12) rfl (by kernel_rfl) (wants_f rfl rfl rfl rfl) ?_
                          refine ta_skip (i := 13) rfl (by kernel_rfl) (wants_f rfl rfl rfl rfl) ?_
                          refine ta_skip (i := 14) rfl (by kernel_rfl) (wants_f rfl rfl rfl rfl) ?_
                          refine ta_float (i := 15) rfl (by kernel_rfl) (wants_none rfl) (yq_of (y_pickt (fe_t rfl) fe_c)) ?_
                          refine ta_done (by kernel_rfl) ?_
                          refine tx_then ?_
                          refine tr_condt (fe_t rfl) ?_
                          refine tr_seq ?_
                          refine tr_region ?_
                          refine tl_step rfl (oj_val (y_assign fe_c) ?_)
                          refine tl_nil ?_
                          refine tx_then ?_
                          refine tr_ret ?_
                          refine tx_then_ret ?_
                          refine tx_ret (res1 Try.results8 (rok_t rfl)) (fun w' hS => ?_)
                          exact ⟨ret_bool (by first | rfl | (simp; done)), hS.pick [] _ rfl (by decide)⟩
                      · try (exfalso; omega)
                        all_goals
                          refine ta_float (i := 11) rfl (by kernel_rfl) (wants_t rfl rfl rfl) (yq_of (y_ldbA 1 Try.isAgg81 Try.sizeOf81 (fe_t rfl) rfl rfl rfl)) ?_
                          refine ta_float (i := 12) rfl (by kernel_rfl) (wants_t rfl rfl rfl) (yq_of (y_ldbA 0 Try.isAgg81 Try.sizeOf81 (fe_t rfl) rfl rfl rfl)) ?_
                          refine ta_float (i := 13) rfl (by kernel_rfl) (wants_t rfl rfl rfl) (yq_call Try.call65 fe_f (fel_cons (fe_t rfl) (fel_cons (fe_t rfl) fel_nil)) (fun w' hS => of_bel (Sketch.same_any 0 0 none none 0 0 0 [] w' Rd.nil Rd.nil rfl (by omega)))) ?_
                          refine ta_float (i := 14) rfl (by kernel_rfl) (wants_t rfl rfl rfl) (yq_of (y_not (fe_t rfl))) ?_
                          refine ta_float (i := 15) rfl (by kernel_rfl) (wants_none rfl) (yq_of (y_pickf (fe_t rfl) (fe_t rfl))) ?_
                          refine ta_done (by kernel_rfl) ?_
                          refine tx_then ?_
                          refine tr_condf (fe_t rfl) ?_
                          refine tr_skip ?_
                          refine tx_then ?_
                          refine tr_seq ?_
                          refine tr_seq ?_
                          refine tr_region ?_
                          refine tl_step rfl (oj_val (y_ldbA 2 Try.isAgg81 Try.sizeOf81 (fe_t rfl) rfl rfl rfl) ?_)
                          refine tl_step rfl (oj_callv Try.call64 fe_f (fel_cons (fe_t rfl) fel_nil) (fun w' hS => of_bel (Sketch.vright_no A n c w' (Rd.below hr hS.below) hn (by omega) va)) ?_)
                          refine tl_step rfl (oj_val (y_not (fe_t rfl)) ?_)
                          refine tl_nil ?_
                          refine tx_then ?_
                          refine tr_condt (fe_t rfl) ?_
                          refine tr_seq ?_
                          refine tr_region ?_
                          refine tl_step rfl (oj_val (y_move (fe_t rfl)) ?_)
                          refine tl_step rfl (oj_val (y_eq (fe_t rfl) fe_c) ?_)
                          refine tl_step rfl (oj_val (y_move (fe_t rfl)) ?_)
                          refine tl_splitp (d := 103) rfl (fun hq29 => ?_) (fun hq30 => ?_)
                          · try (exfalso; omega)
                            all_goals
                              refine tl_want rfl rfl rfl (oj_val (y_move (fe_t rfl)) ?_)
                              refine tl_want rfl rfl rfl (oj_val (y_eq (fe_t rfl) fe_c) ?_)
                              refine tl_step rfl (oj_val (y_pickt (fe_t rfl) (fe_t rfl)) ?_)
                              refine tl_step rfl (oj_val (y_assign (fe_t rfl)) ?_)
                              refine tl_nil ?_
                              refine tx_then ?_
                              refine tr_ret ?_
                              refine tx_then_ret ?_
                              refine tx_ret (res1 Try.results8 (rok_t rfl)) (fun w' hS => ?_)
                              exact ⟨ret_bool (by first | rfl | (simp; done)), hS.pick [] _ rfl (by decide)⟩
                          · try (exfalso; omega)
                            all_goals
                              refine tl_skip rfl rfl rfl rfl ?_
                              refine tl_skip rfl rfl rfl rfl ?_
                              refine tl_step rfl (oj_val (y_pickf (fe_t rfl) fe_c) ?_)
                              refine tl_step rfl (oj_val (y_assign (fe_t rfl)) ?_)
                              refine tl_nil ?_
                              refine tx_then ?_
                              refine tr_ret ?_
                              refine tx_then_ret ?_
                              refine tx_ret (res1 Try.results8 (rok_t rfl)) (fun w' hS => ?_)
                              exact ⟨ret_bool (by first | rfl | (simp; done)), hS.pick [] _ rfl (by decide)⟩
          · try (exfalso; omega)
            all_goals
              refine tl_want rfl rfl rfl (oj_val (y_fieldAddr (td := 3) Try.underlying81 rfl rfl Try.sizeOf3 (o' := 1) rfl (fe_t rfl)) ?_)
              refine tl_want rfl rfl rfl (oj_val (y_ldb 2 Try.isAgg3 (fe_t rfl) rfl rfl) ?_)
              refine tl_want rfl rfl rfl (oj_val (y_gtr (fe_t rfl) fe_c) ?_)
              refine tl_step rfl (oj_val (y_pickf (fe_t rfl) (fe_t rfl)) ?_)
              refine tl_nil ?_
              refine tx_then ?_
              refine tr_condp (fe_t rfl) (fun hq31 => ?_) (fun hq32 => ?_)
              · try (exfalso; omega)
                all_goals
                  refine tr_seq ?_
                  refine tr_region ?_
                  refine tl_step rfl (oj_val (y_move (fe_t rfl)) ?_)
                  refine tl_step rfl (oj_val (y_neq (fe_t rfl) fe_c) ?_)
                  refine tl_step rfl (oj_val (y_move (fe_t rfl)) ?_)
                  refine tl_splitp (d := 67) rfl (fun hq33 => ?_) (fun hq34 => ?_)
                  · try (exfalso; omega)
                    all_goals
                      refine tl_skip rfl rfl rfl rfl ?_
                      refine tl_skip rfl rfl rfl rfl ?_
                      refine tl_step rfl (oj_val (y_pickt (fe_t rfl) fe_c) ?_)
                      refine tl_nil ?_
                      refine tx_then ?_
                      exfalso; omega
                  · try (exfalso; omega)
                    all_goals
                      refine tl_want rfl rfl rfl (oj_val (y_move (fe_t rfl)) ?_)
                      refine tl_want rfl rfl rfl (oj_val (y_neq (fe_t rfl) fe_c) ?_)
                      refine tl_step rfl (oj_val (y_pickf (fe_t rfl) (fe_t rfl)) ?_)
                      refine tl_nil ?_
                      refine tx_then ?_
                      refine tr_condp (fe_t rfl) (fun hq35 => ?_) (fun hq36 => ?_)
                      · exfalso; omega
                      · try (exfalso; omega)
                        all_goals
                          refine tr_skip ?_
                          refine tx_then ?_
                          refine tr_seq ?_
                          refine tr_seq ?_
                          refine tr_draw (sel _ [0, 1, 2]) (fun w h => h.sel _ rfl (by decide)) rfl ?_
                          refine ta_float (i := 0) rfl (by kernel_rfl) (wants_none rfl) (yq_of (y_ldbA 2 Try.isAgg81 Try.sizeOf81 (fe_t rfl) rfl rfl rfl)) ?_
                          refine ta_float (i := 1) rfl (by kernel_rfl) (wants_none rfl) (yq_call Try.call63 fe_f (fel_cons (fe_t rfl) fel_nil) (fun w' hS => of_bel (Sketch.right_no A n c w' (Rd.below hr hS.below) hn (by omega) va))) ?_
                          refine ta_float (i := 2) rfl (by kernel_rfl) (wants_none rfl) (yq_of (y_ldbA 2 Try.isAgg81 Try.sizeOf81 (fe_t rfl) rfl rfl rfl)) ?_
                          refine ta_float (i := 3) rfl (by kernel_rfl) (wants_none rfl) (yq_call Try.call64 fe_f (fel_cons (fe_t rfl) fel_nil) (fun w' hS => of_bel (Sketch.vright_no A n c w' (Rd.below hr hS.below) hn (by omega) va))) ?_
                          refine ta_float (i := 4) rfl (by kernel_rfl) (wants_none rfl) (yq_of (y_nebb Try.underlying4 (fe_t rfl) (fe_t rfl))) ?_
                          refine ta_float (i := 5) rfl (by kernel_rfl) (wants_none rfl) (yq_of (y_move (fe_t rfl))) ?_
                          refine ta_float (i := 6) rfl (by kernel_rfl) (wants_t rfl rfl rfl) (yq_of (y_move (fe_t rfl))) ?_
                          refine ta_float (i := 7) rfl (by kernel_rfl) (wants_t rfl rfl rfl) (yq_of (y_move (fe_t rfl))) ?_
                          refine ta_float (i := 8) rfl (by kernel_rfl) (wants_t rfl rfl rfl) (yq_of (y_neq (fe_t rfl) (fe_t rfl))) ?_
                          refine ta_float (i := 9) rfl (by kernel_rfl) (wants_none rfl) (yq_of (y_pickf (fe_t rfl) (fe_t rfl))) ?_
                          refine ta_float (i := 10) rfl (by kernel_rfl) (wants_none rfl) (yq_of (y_move (fe_t rfl))) ?_
                          refine ta_splitp (d := 92) rfl (fun hq37 => ?_) (fun hq38 => ?_)
                          · try (exfalso; omega)
                            all_goals
                              refine ta_skip (i := 11) rfl (by kernel_rfl) (wants_f rfl rfl rfl rfl) ?_
                              refine ta_skip (i := 12) rfl (by kernel_rfl) (wants_f rfl rfl rfl rfl) ?_
                              refine ta_skip (i := 13) rfl (by kernel_rfl) (wants_f rfl rfl rfl rfl) ?_
                              refine ta_skip (i := 14) rfl (by kernel_rfl) (wants_f rfl rfl rfl rfl) ?_
                              refine ta_float (i := 15) rfl (by kernel_rfl) (wants_none rfl) (yq_of (y_pickt (fe_t rfl) fe_c)) ?_
                              refine ta_done (by kernel_rfl) ?_
                              refine tx_then ?_
                              refine tr_condt (fe_t rfl) ?_
                              refine tr_seq ?_
                              refine tr_region ?_
                              refine tl_step rfl (oj_val (y_assign fe_c) ?_)
                              refine tl_nil ?_
                              refine tx_then ?_
                              refine tr_ret ?_
                              refine tx_then_ret ?_
                              refine tx_ret (res1 Try.results8 (rok_t rfl)) (fun w' hS => ?_)
                              exact ⟨ret_bool (by first | rfl | (simp; done)), hS.pick [] _ rfl (by decide)⟩
                          · try (exfalso; omega)
                            all_goals
                              refine ta_float (i := 11) rfl (by kernel_rfl) (wants_t rfl rfl rfl) (yq_of (y_ldbA 1 Try.isAgg81 Try.sizeOf81 (fe_t rfl) rfl rfl rfl)) ?_
                              refine ta_float (i := 12) rfl (by kernel_rfl) (wants_t rfl rfl rfl) (yq_of (y_ldbA 0 Try.isAgg81 Try.sizeOf81 (fe_t rfl) rfl rfl rfl)) ?_
                              refine ta_float (i := 13) rfl (by kernel_rfl) (wants_t rfl rfl rfl) (yq_call Try.call65 fe_f (fel_cons (fe_t rfl) (fel_cons (fe_t rfl) fel_nil)) (fun w' hS => of_bel (Sketch.same_any 0 0 none none 0 0 0 [] w' Rd.nil Rd.nil rfl (by omega)))) ?_
                              refine ta_float (i := 14) rfl (by kernel_rfl) (wants_t rfl rfl rfl) (yq_of (y_not (fe_t rfl))) ?_
                              refine ta_float (i := 15) rfl (by kernel_rfl) (wants_none rfl) (yq_of (y_pickf (fe_t rfl) (fe_t rfl))) ?_
                              refine ta_done (by kernel_rfl) ?_
                              refine tx_then ?_
                              refine tr_condf (fe_t rfl) ?_
                              refine tr_skip ?_
                              refine tx_then ?_
                              refine tr_seq ?_
                              refine tr_seq ?_
                              refine tr_region ?_
                              refine tl_step rfl (oj_val (y_ldbA 2 Try.isAgg81 Try.sizeOf81 (fe_t rfl) rfl rfl rfl) ?_)
                              refine tl_step rfl (oj_callv Try.call64 fe_f (fel_cons (fe_t rfl) fel_nil) (fun w' hS => of_bel (Sketch.vright_no A n c w' (Rd.below hr hS.below) hn (by omega) va)) ?_)
                              refine tl_step rfl (oj_val (y_not (fe_t rfl)) ?_)
                              refine tl_nil ?_
                              refine tx_then ?_
                              refine tr_condt (fe_t rfl) ?_
                              refine tr_seq ?_
                              refine tr_region ?_
                              refine tl_step rfl (oj_val (y_move (fe_t rfl)) ?_)
                              refine tl_step rfl (oj_val (y_eq (fe_t rfl) fe_c) ?_)
                              refine tl_step rfl (oj_val (y_move (fe_t rfl)) ?_)
                              refine tl_splitp (d := 103) rfl (fun hq39 => ?_) (fun hq40 => ?_)
                              · try (exfalso; omega)
                                all_goals
                                  refine tl_want rfl rfl rfl (oj_val (y_move (fe_t rfl)) ?_)
                                  refine tl_want rfl rfl rfl (oj_val (y_eq (fe_t rfl) fe_c) ?_)
                                  refine tl_step rfl (oj_val (y_pickt (fe_t rfl) (fe_t rfl)) ?_)
                                  refine tl_step rfl (oj_val (y_assign (fe_t rfl)) ?_)
                                  refine tl_nil ?_
                                  refine tx_then ?_
                                  refine tr_ret ?_
                                  refine tx_then_ret ?_
                                  refine tx_ret (res1 Try.results8 (rok_t rfl)) (fun w' hS => ?_)
                                  exact ⟨ret_bool (by first | rfl | (simp; done)), hS.pick [] _ rfl (by decide)⟩
                              · try (exfalso; omega)
                                all_goals
                                  refine tl_skip rfl rfl rfl rfl ?_
                                  refine tl_skip rfl rfl rfl rfl ?_
                                  refine tl_step rfl (oj_val (y_pickf (fe_t rfl) fe_c) ?_)
                                  refine tl_step rfl (oj_val (y_assign (fe_t rfl)) ?_)
                                  refine tl_nil ?_
                                  refine tx_then ?_
                                  refine tr_ret ?_
                                  refine tx_then_ret ?_
                                  refine tx_ret (res1 Try.results8 (rok_t rfl)) (fun w' hS => ?_)
                                  exact ⟨ret_bool (by first | rfl | (simp; done)), hS.pick [] _ rfl (by decide)⟩
              · exfalso; omega

set_option maxRecDepth 100000 in
set_option maxHeartbeats 4000000 in
theorem law_x_rng {width row id nn : Int} {cf : Bool} (R : Nat) (A : Option Addr) (n c : Nat) (zs : List Int) (w : World) (hr : Rd w A (zs.map (.int .i64))) (hn : zs.length = n) (va : Sketch.vright (R : Int) width zs = true) (i0 : 0 ≤ id) (i1 : id < 18446744073709551616) (hpk : row < 0 ∨ 7 < row ∨ width < 1 ∨ 64 < width) (hb : nn < 0 ∨ 1073741824 < nn) :
    Calls Try.prog 8 #[.agg #[(.int .i64 ((R : Int))), (.int .i64 width), .slice A n c], (.int .i64 row), .int .u64 id, (.int .i64 nn), .bool cf] w fun e w' => e = .returned (.bool true) ∧ St w w' [] := by
  obtain ⟨⟨d0, d1⟩, ⟨w0, w1⟩, hln⟩ := vright_facts va
  have hR8 : (R : Int) * width ≤ 8 * 64 := Int.mul_le_mul (by omega) w1 (by omega) (by omega)
  have hpos := Sketch.dims_prod (Sketch.dims_iff.2 ⟨⟨d0, d1⟩, w0, w1⟩)
  refine calls_tr Try.func8 Try.ntmps8 rfl rfl (St.refl _) ?_
  refine tr_seq ?_
  refine tr_region ?_
  refine tl_step rfl (oj_box (fe_t rfl) (fun sb => ?_))
  refine tl_step rfl (oj_val (y_assign fe_c) ?_)
  refine tl_nil ?_
  refine tx_then ?_
  refine tr_seq ?_
  refine tr_region ?_
  refine tl_step rfl (oj_val (y_move (fe_t rfl)) ?_)
  refine tl_step rfl (oj_val (y_fieldAddr (td := 3) Try.underlying81 rfl rfl Try.sizeOf3 (o' := 1) rfl (fe_t rfl)) ?_)
  refine tl_step rfl (oj_val (y_ldb 0 Try.isAgg3 (fe_t rfl) rfl rfl) ?_)
  refine tl_step rfl (oj_val (y_move (fe_t rfl)) ?_)
  refine tl_step rfl (oj_callv Try.call58 fe_f (fel_cons (fe_t rfl) (fel_cons (fe_t rfl) (fel_cons (fe_t rfl) fel_nil))) (fun w' hS => place_bad _ _ _ w' hpk) ?_)
  refine tl_step rfl (oj_val (y_move (fe_t rfl)) ?_)
  refine tl_step rfl (oj_val (y_extract (fe_t rfl) rfl) ?_)
  refine tl_step rfl (oj_val (y_extract (fe_t rfl) rfl) ?_)
  refine tl_step rfl (oj_val (y_assign (fe_t rfl)) ?_)
  refine tl_step rfl (oj_val (y_assign (fe_t rfl)) ?_)
  refine tl_nil ?_
  refine tx_then ?_
  refine tr_seq ?_
  refine tr_region ?_
  refine tl_step rfl (oj_val (y_ldbA 0 Try.isAgg81 Try.sizeOf81 (fe_t rfl) rfl rfl rfl) ?_)
  refine tl_step rfl (oj_val (y_move (fe_t rfl)) ?_)
  refine tl_step rfl (oj_callv Try.call59 fe_f (fel_cons (fe_t rfl) (fel_cons (fe_t rfl) fel_nil)) (fun w' hS => count_ok R A n c zs w' (Rd.below hr hS.below) hn va i0 i1) ?_)
  refine tl_step rfl (oj_val (y_move (fe_t rfl)) ?_)
  refine tl_step rfl (oj_val (y_extract (fe_t rfl) rfl) ?_)
  refine tl_step rfl (oj_val (y_extract (fe_t rfl) rfl) ?_)
  refine tl_step rfl (oj_val (y_assign (fe_t rfl)) ?_)
  refine tl_step rfl (oj_val (y_assign (fe_t rfl)) ?_)
  refine tl_nil ?_
  refine tx_then ?_
  refine tr_seq ?_
  refine tr_region ?_
  refine tl_step rfl (oj_val (y_ldbA 0 Try.isAgg81 Try.sizeOf81 (fe_t rfl) rfl rfl rfl) ?_)
  refine tl_step rfl (oj_val (y_move (fe_t rfl)) ?_)
  refine tl_step rfl (oj_val (y_move (fe_t rfl)) ?_)
  refine tl_step rfl (oj_val (y_move (fe_t rfl)) ?_)
  refine tl_step rfl (oj_callv Try.call60 fe_f (fel_cons (fe_t rfl) (fel_cons (fe_t rfl) (fel_cons (fe_t rfl) (fel_cons (fe_t rfl) fel_nil)))) (fun w' hS => Aadd_rng R A n c zs w' (Rd.below hr hS.below) hn va hb) ?_)
  refine tl_step rfl (oj_val (y_move (fe_t rfl)) ?_)
  refine tl_step rfl (oj_val (y_extract (fe_t rfl) rfl) ?_)
  refine tl_step rfl (oj_val (y_extract (fe_t rfl) rfl) ?_)
  refine tl_step rfl (oj_alloc Try.zeroValue81 (fun ab => ?_))
  refine tl_step rfl (oj_storeW 0 Try.sizeOf81 (fe_t rfl) (fe_t rfl) rfl rfl rfl rfl rfl (?_))
  refine tl_step rfl (oj_val (y_assign (fe_t rfl)) ?_)
  refine tl_nil ?_
  refine tx_then ?_
  refine tr_seq ?_
  refine tr_region ?_
  refine tl_step rfl (oj_val (y_ldbA 1 Try.isAgg81 Try.sizeOf81 (fe_t rfl) rfl rfl rfl) ?_)
  refine tl_step rfl (oj_val (y_move (fe_t rfl)) ?_)
  refine tl_step rfl (oj_val (y_move (fe_t rfl)) ?_)
  refine tl_step rfl (oj_val (y_move (fe_t rfl)) ?_)
  refine tl_step rfl (oj_callv Try.call61 fe_f (fel_cons (fe_t rfl) (fel_cons (fe_t rfl) (fel_cons (fe_t rfl) (fel_cons (fe_t rfl) fel_nil)))) (fun w' hS => Vadd_rng R A n c zs w' (Rd.below hr hS.below) hn va hb) ?_)
  refine tl_step rfl (oj_val (y_move (fe_t rfl)) ?_)
  refine tl_step rfl (oj_val (y_extract (fe_t rfl) rfl) ?_)
  refine tl_step rfl (oj_val (y_extract (fe_t rfl) rfl) ?_)
  refine tl_step rfl (oj_alloc Try.zeroValue81 (fun bb => ?_))
  refine tl_step rfl (oj_storeW 0 Try.sizeOf81 (fe_t rfl) (fe_t rfl) rfl rfl rfl rfl rfl (?_))
  refine tl_step rfl (oj_val (y_assign (fe_t rfl)) ?_)
  refine tl_nil ?_
  refine tx_then ?_
  refine tr_seq ?_
  refine tr_seq ?_
  refine tr_region ?_
  refine tl_step rfl (oj_val (y_move (fe_t rfl)) ?_)
  refine tl_step rfl (oj_val (y_lss (fe_t rfl) fe_c) ?_)
  refine tl_step rfl (oj_val (y_move (fe_t rfl)) ?_)
  refine tl_splitp (d := 51) rfl (fun hq1 => ?_) (fun hq2 => ?_)
  · try (exfalso; omega)
    all_goals
      refine tl_skip rfl rfl rfl rfl ?_
      refine tl_skip rfl rfl rfl rfl ?_
      refine tl_step rfl (oj_val (y_pickt (fe_t rfl) fe_c) ?_)
      refine tl_step rfl (oj_val (y_move (fe_t rfl)) ?_)
      refine tl_skip rfl rfl rfl rfl ?_
      refine tl_skip rfl rfl rfl rfl ?_
      refine tl_skip rfl rfl rfl rfl ?_
      refine tl_step rfl (oj_val (y_pickt (fe_t rfl) fe_c) ?_)
      refine tl_step rfl (oj_val (y_move (fe_t rfl)) ?_)
      refine tl_skip rfl rfl rfl rfl ?_
      refine tl_skip rfl rfl rfl rfl ?_
      refine tl_skip rfl rfl rfl rfl ?_
      refine tl_step rfl (oj_val (y_pickt (fe_t rfl) fe_c) ?_)
      refine tl_nil ?_
      refine tx_then ?_
      refine tr_condt (fe_t rfl) ?_
      refine tr_seq ?_
      refine tr_region ?_
      refine tl_step rfl (oj_val (y_move (fe_t rfl)) ?_)
      refine tl_step rfl (oj_val (y_neq (fe_t rfl) fe_c) ?_)
      refine tl_step rfl (oj_val (y_move (fe_t rfl)) ?_)
      refine tl_splitp (d := 67) rfl (fun hq3 => ?_) (fun hq4 => ?_)
      · try (exfalso; omega)
        all_goals
          refine tl_skip rfl rfl rfl rfl ?_
          refine tl_skip rfl rfl rfl rfl ?_
          refine tl_step rfl (oj_val (y_pickt (fe_t rfl) fe_c) ?_)
          refine tl_nil ?_
          refine tx_then ?_
          exfalso; omega
      · try (exfalso; omega)
        all_goals
          refine tl_want rfl rfl rfl (oj_val (y_move (fe_t rfl)) ?_)
          refine tl_want rfl rfl rfl (oj_val (y_neq (fe_t rfl) fe_c) ?_)
          refine tl_step rfl (oj_val (y_pickf (fe_t rfl) (fe_t rfl)) ?_)
          refine tl_nil ?_
          refine tx_then ?_
          refine tr_condp (fe_t rfl) (fun hq5 => ?_) (fun hq6 => ?_)
          · exfalso; omega
          · try (exfalso; omega)
            all_goals
              refine tr_skip ?_
              refine tx_then ?_
              refine tr_seq ?_
              refine tr_seq ?_
              refine tr_draw (sel _ [0, 1, 2]) (fun w h => h.sel _ rfl (by decide)) rfl ?_
              refine ta_float (i := 0) rfl (by kernel_rfl) (wants_none rfl) (yq_of (y_ldbA 2 Try.isAgg81 Try.sizeOf81 (fe_t rfl) rfl rfl rfl)) ?_
              refine ta_float (i := 1) rfl (by kernel_rfl) (wants_none rfl) (yq_call Try.call63 fe_f (fel_cons (fe_t rfl) fel_nil) (fun w' hS => of_bel (Sketch.right_yes A n c w' (Rd.below hr hS.below) hn (by omega) va))) ?_
              refine ta_float (i := 2) rfl (by kernel_rfl) (wants_none rfl) (yq_of (y_ldbA 2 Try.isAgg81 Try.sizeOf81 (fe_t rfl) rfl rfl rfl)) ?_
              refine ta_float (i := 3) rfl (by kernel_rfl) (wants_none rfl) (yq_call Try.call64 fe_f (fel_cons (fe_t rfl) fel_nil) (fun w' hS => of_bel (Sketch.vright_yes A n c w' (Rd.below hr hS.below) hn (by omega) va))) ?_
              refine ta_float (i := 4) rfl (by kernel_rfl) (wants_none rfl) (yq_of (y_nebb Try.underlying4 (fe_t rfl) (fe_t rfl))) ?_
              refine ta_float (i := 5) rfl (by kernel_rfl) (wants_none rfl) (yq_of (y_move (fe_t rfl))) ?_
              refine ta_float (i := 6) rfl (by kernel_rfl) (wants_t rfl rfl rfl) (yq_of (y_move (fe_t rfl))) ?_
              refine ta_float (i := 7) rfl (by kernel_rfl) (wants_t rfl rfl rfl) (yq_of (y_move (fe_t rfl))) ?_
              refine ta_float (i := 8) rfl (by kernel_rfl) (wants_t rfl rfl rfl) (yq_of (y_neq (fe_t rfl) (fe_t rfl))) ?_
              refine ta_float (i := 9) rfl (by kernel_rfl) (wants_none rfl) (yq_of (y_pickf (fe_t rfl) (fe_t rfl))) ?_
              refine ta_float (i := 10) rfl (by kernel_rfl) (wants_none rfl) (yq_of (y_move (fe_t rfl))) ?_
              refine ta_splitp (d := 92) rfl (fun hq7 => ?_) (fun hq8 => ?_)
              · try (exfalso; omega)
                all_goals
                  refine ta_skip (i := 11) rfl (by kernel_rfl) (wants_f rfl rfl rfl rfl) ?_
                  refine ta_skip (i := 12) rfl (by kernel_rfl) (wants_f rfl rfl rfl rfl) ?_
                  refine ta_skip (i := 13) rfl (by kernel_rfl) (wants_f rfl rfl rfl rfl) ?_
                  refine ta_skip (i := 14) rfl (by kernel_rfl) (wants_f rfl rfl rfl rfl) ?_
                  refine ta_float (i := 15) rfl (by kernel_rfl) (wants_none rfl) (yq_of (y_pickt (fe_t rfl) fe_c)) ?_
                  refine ta_done (by kernel_rfl) ?_
                  refine tx_then ?_
                  refine tr_condt (fe_t rfl) ?_
                  refine tr_seq ?_
                  refine tr_region ?_
                  refine tl_step rfl (oj_val (y_assign fe_c) ?_)
                  refine tl_nil ?_
                  refine tx_then ?_
                  refine tr_ret ?_
                  refine tx_then_ret ?_
                  refine tx_ret (res1 Try.results8 (rok_t rfl)) (fun w' hS => ?_)
                  exact ⟨ret_bool (by first | rfl | (simp; done)), hS.pick [] _ rfl (by decide)⟩
              · try (exfalso; omega)
                all_goals
                  refine ta_float (i := 11) rfl (by kernel_rfl) (wants_t rfl rfl rfl) (yq_of (y_ldbA 1 Try.isAgg81 Try.sizeOf81 (fe_t rfl) rfl rfl rfl)) ?_
                  refine ta_float (i := 12) rfl (by kernel_rfl) (wants_t rfl rfl rfl) (yq_of (y_ldbA 0 Try.isAgg81 Try.sizeOf81 (fe_t rfl) rfl rfl rfl)) ?_
                  refine ta_float (i := 13) rfl (by kernel_rfl) (wants_t rfl rfl rfl) (yq_call Try.call65 fe_f (fel_cons (fe_t rfl) (fel_cons (fe_t rfl) fel_nil)) (fun w' hS => of_bel (Sketch.same_any 0 0 none none 0 0 0 [] w' Rd.nil Rd.nil rfl (by omega)))) ?_
                  refine ta_float (i := 14) rfl (by kernel_rfl) (wants_t rfl rfl rfl) (yq_of (y_not (fe_t rfl))) ?_
                  refine ta_float (i := 15) rfl (by kernel_rfl) (wants_none rfl) (yq_of (y_pickf (fe_t rfl) (fe_t rfl))) ?_
                  refine ta_done (by kernel_rfl) ?_
                  refine tx_then ?_
                  refine tr_condf (fe_t rfl) ?_
                  refine tr_skip ?_
                  refine tx_then ?_
                  refine tr_seq ?_
                  refine tr_seq ?_
                  refine tr_region ?_
                  refine tl_step rfl (oj_val (y_ldbA 2 Try.isAgg81 Try.sizeOf81 (fe_t rfl) rfl rfl rfl) ?_)
                  refine tl_step rfl (oj_callv Try.call64 fe_f (fel_cons (fe_t rfl) fel_nil) (fun w' hS => of_bel (Sketch.vright_yes A n c w' (Rd.below hr hS.below) hn (by omega) va)) ?_)
                  refine tl_step rfl (oj_val (y_not (fe_t rfl)) ?_)
                  refine tl_nil ?_
                  refine tx_then ?_
                  refine tr_condf (fe_t rfl) ?_
                  refine tr_skip ?_
                  refine tx_then ?_
                  refine tr_seq ?_
                  refine tr_region ?_
                  refine tl_step rfl (oj_val (y_move (fe_t rfl)) ?_)
                  refine tl_step rfl (oj_val (y_eq (fe_t rfl) fe_c) ?_)
                  refine tl_step rfl (oj_val (y_move (fe_t rfl)) ?_)
                  refine tl_splitp (d := 109) rfl (fun hq9 => ?_) (fun hq10 => ?_)
                  · try (exfalso; omega)
                    all_goals
                      refine tl_want rfl rfl rfl (oj_val (y_move (fe_t rfl)) ?_)
                      refine tl_want rfl rfl rfl (oj_val (y_ldbA 2 Try.isAgg81 Try.sizeOf81 (fe_t rfl) rfl rfl rfl) ?_)
                      refine tl_want rfl rfl rfl (oj_val (y_move (fe_t rfl)) ?_)
                      refine tl_want rfl rfl rfl (oj_callv Try.call66 fe_f (fel_cons (fe_t rfl) (fel_cons (fe_t rfl) fel_nil)) (fun w' hS => vcount_ok R A n c zs w' (Rd.below hr hS.below) hn va i0 i1) ?_)
                      refine tl_want rfl rfl rfl (oj_val (y_eq (fe_t rfl) (fe_t rfl)) ?_)
                      refine tl_step rfl (oj_val (y_pickt (fe_t rfl) (fe_t rfl)) ?_)
                      refine tl_step rfl (oj_val (y_assign (fe_t rfl)) ?_)
                      refine tl_nil ?_
                      refine tx_then ?_
                      refine tr_ret ?_
                      refine tx_ret (res1 Try.results8 (rok_t rfl)) (fun w' hS => ?_)
                      exact ⟨ret_bool (by first | rfl | (simp; done)), hS.pick [] _ rfl (by decide)⟩
                  · try (exfalso; omega)
                    all_goals
                      refine tl_skip rfl rfl rfl rfl ?_
                      refine tl_skip rfl rfl rfl rfl ?_
                      refine tl_skip rfl rfl rfl rfl ?_
                      refine tl_skip rfl rfl rfl rfl ?_
                      refine tl_skip rfl rfl rfl rfl ?_
                      refine tl_step rfl (oj_val (y_pickf (fe_t rfl) fe_c) ?_)
                      refine tl_step rfl (oj_val (y_assign (fe_t rfl)) ?_)
                      refine tl_nil ?_
                      refine tx_then ?_
                      refine tr_ret ?_
                      refine tx_ret (res1 Try.results8 (rok_t rfl)) (fun w' hS => ?_)
                      exact ⟨ret_bool (by first | rfl | (simp; done)), hS.pick [] _ rfl (by decide)⟩
  · try (exfalso; omega)
    all_goals
      refine tl_want rfl rfl rfl (oj_val (y_move (fe_t rfl)) ?_)
      refine tl_want rfl rfl rfl (oj_val (y_gtr (fe_t rfl) fe_c) ?_)
      refine tl_step rfl (oj_val (y_pickf (fe_t rfl) (fe_t rfl)) ?_)
      refine tl_step rfl (oj_val (y_move (fe_t rfl)) ?_)
      refine tl_splitp (d := 55) rfl (fun hq11 => ?_) (fun hq12 => ?_)
      · try (exfalso; omega)
        all_goals
          refine tl_skip rfl rfl rfl rfl ?_
          refine tl_skip rfl rfl rfl rfl ?_
          refine tl_skip rfl rfl rfl rfl ?_
          refine tl_step rfl (oj_val (y_pickt (fe_t rfl) fe_c) ?_)
          refine tl_step rfl (oj_val (y_move (fe_t rfl)) ?_)
          refine tl_skip rfl rfl rfl rfl ?_
          refine tl_skip rfl rfl rfl rfl ?_
          refine tl_skip rfl rfl rfl rfl ?_
          refine tl_step rfl (oj_val (y_pickt (fe_t rfl) fe_c) ?_)
          refine tl_nil ?_
          refine tx_then ?_
          refine tr_condt (fe_t rfl) ?_
          refine tr_seq ?_
          refine tr_region ?_
          refine tl_step rfl (oj_val (y_move (fe_t rfl)) ?_)
          refine tl_step rfl (oj_val (y_neq (fe_t rfl) fe_c) ?_)
          refine tl_step rfl (oj_val (y_move (fe_t rfl)) ?_)
          refine tl_splitp (d := 67) rfl (fun hq13 => ?_) (fun hq14 => ?_)
          · try (exfalso; omega)
            all_goals
              refine tl_skip rfl rfl rfl rfl ?_
              refine tl_skip rfl rfl rfl rfl ?_
              refine tl_step rfl (oj_val (y_pickt (fe_t rfl) fe_c) ?_)
              refine tl_nil ?_
              refine tx_then ?_
              exfalso; omega
          · try (exfalso; omega)
            all_goals
              refine tl_want rfl rfl rfl (oj_val (y_move (fe_t rfl)) ?_)
              refine tl_want rfl rfl rfl (oj_val (y_neq (fe_t rfl) fe_c) ?_)
              refine tl_step rfl (oj_val (y_pickf (fe_t rfl) (fe_t rfl)) ?_)
              refine tl_nil ?_
              refine tx_then ?_
              refine tr_condp (fe_t rfl) (fun hq15 => ?_) (fun hq16 => ?_)
              · exfalso; omega
              · try (exfalso; omega)
                all_goals
                  refine tr_skip ?_
                  refine tx_then ?_
                  refine tr_seq ?_
                  refine tr_seq ?_
                  refine tr_draw (sel _ [0, 1, 2]) (fun w h => h.sel _ rfl (by decide)) rfl ?_
                  refine ta_float (i := 0) rfl (by kernel_rfl) (wants_none rfl) (yq_of (y_ldbA 2 Try.isAgg81 Try.sizeOf81 (fe_t rfl) rfl rfl rfl)) ?_
                  refine ta_float (i := 1) rfl (by kernel_rfl) (wants_none rfl) (yq_call Try.call63 fe_f (fel_cons (fe_t rfl) fel_nil) (fun w' hS => of_bel (Sketch.right_yes A n c w' (Rd.below hr hS.below) hn (by omega) va))) ?_
                  refine ta_float (i := 2) rfl (by kernel_rfl) (wants_none rfl) (yq_of (y_ldbA 2 Try.isAgg81 Try.sizeOf81 (fe_t rfl) rfl rfl rfl)) ?_
                  refine ta_float (i := 3) rfl (by kernel_rfl) (wants_none rfl) (yq_call Try.call64 fe_f (fel_cons (fe_t rfl) fel_nil) (fun w' hS => of_bel (Sketch.vright_yes A n c w' (Rd.below hr hS.below) hn (by omega) va))) ?_
                  refine ta_float (i := 4) rfl (by kernel_rfl) (wants_none rfl) (yq_of (y_nebb Try.underlying4 (fe_t rfl) (fe_t rfl))) ?_
                  refine ta_float (i := 5) rfl (by kernel_rfl) (wants_none rfl) (yq_of (y_move (fe_t rfl))) ?_
                  refine ta_float (i := 6) rfl (by kernel_rfl) (wants_t rfl rfl rfl) (yq_of (y_move (fe_t rfl))) ?_
                  refine ta_float (i := 7) rfl (by kernel_rfl) (wants_t rfl rfl rfl) (yq_of (y_move (fe_t rfl))) ?_
                  refine ta_float (i := 8) rfl (by kernel_rfl) (wants_t rfl rfl rfl) (yq_of (y_neq (fe_t rfl) (fe_t rfl))) ?_
                  refine ta_float (i := 9) rfl (by kernel_rfl) (wants_none rfl) (yq_of (y_pickf (fe_t rfl) (fe_t rfl))) ?_
                  refine ta_float (i := 10) rfl (by kernel_rfl) (wants_none rfl) (yq_of (y_move (fe_t rfl))) ?_
                  refine ta_splitp (d := 92) rfl (fun hq17 => ?_) (fun hq18 => ?_)
                  · try (exfalso; omega)
                    all_goals
                      refine ta_skip (i := 11) rfl (by kernel_rfl) (wants_f rfl rfl rfl rfl) ?_
                      refine ta_skip (i := 12) rfl (by kernel_rfl) (wants_f rfl rfl rfl rfl) ?_
                      refine ta_skip (i := 13) rfl (by kernel_rfl) (wants_f rfl rfl rfl rfl) ?_
                      refine ta_skip (i := 14) rfl (by kernel_rfl) (wants_f rfl rfl rfl rfl) ?_
                      refine ta_float (i := 15) rfl (by kernel_rfl) (wants_none rfl) (yq_of (y_pickt (fe_t rfl) fe_c)) ?_
                      refine ta_done (by kernel_rfl) ?_
                      refine tx_then ?_
                      refine tr_condt (fe_t rfl) ?_
                      refine tr_seq ?_
                      refine tr_region ?_
                      refine tl_step rfl (oj_val (y_assign fe_c) ?_)
                      refine tl_nil ?_
                      refine tx_then ?_
                      refine tr_ret ?_
                      refine tx_then_ret ?_
                      refine tx_ret (res1 Try.results8 (rok_t rfl)) (fun w' hS => ?_)
                      exact ⟨ret_bool (by first | rfl | (simp; done)), hS.pick [] _ rfl (by decide)⟩
                  · try (exfalso; omega)
                    all_goals
                      refine ta_float (i := 11) rfl (by kernel_rfl) (wants_t rfl rfl rfl) (yq_of (y_ldbA 1 Try.isAgg81 Try.sizeOf81 (fe_t rfl) rfl rfl rfl)) ?_
                      refine ta_float (i := 12) rfl (by kernel_rfl) (wants_t rfl rfl rfl) (yq_of (y_ldbA 0 Try.isAgg81 Try.sizeOf81 (fe_t rfl) rfl rfl rfl)) ?_
                      refine ta_float (i := 13) rfl (by kernel_rfl) (wants_t rfl rfl rfl) (yq_call Try.call65 fe_f (fel_cons (fe_t rfl) (fel_cons (fe_t rfl) fel_nil)) (fun w' hS => of_bel (Sketch.same_any 0 0 none none 0 0 0 [] w' Rd.nil Rd.nil rfl (by omega)))) ?_
                      refine ta_float (i := 14) rfl (by kernel_rfl) (wants_t rfl rfl rfl) (yq_of (y_not (fe_t rfl))) ?_
                      refine ta_float (i := 15) rfl (by kernel_rfl) (wants_none rfl) (yq_of (y_pickf (fe_t rfl) (fe_t rfl))) ?_
                      refine ta_done (by kernel_rfl) ?_
                      refine tx_then ?_
                      refine tr_condf (fe_t rfl) ?_
                      refine tr_skip ?_
                      refine tx_then ?_
                      refine tr_seq ?_
                      refine tr_seq ?_
                      refine tr_region ?_
                      refine tl_step rfl (oj_val (y_ldbA 2 Try.isAgg81 Try.sizeOf81 (fe_t rfl) rfl rfl rfl) ?_)
                      refine tl_step rfl (oj_callv Try.call64 fe_f (fel_cons (fe_t rfl) fel_nil) (fun w' hS => of_bel (Sketch.vright_yes A n c w' (Rd.below hr hS.below) hn (by omega) va)) ?_)
                      refine tl_step rfl (oj_val (y_not (fe_t rfl)) ?_)
                      refine tl_nil ?_
                      refine tx_then ?_
                      refine tr_condf (fe_t rfl) ?_
                      refine tr_skip ?_
                      refine tx_then ?_
                      refine tr_seq ?_
                      refine tr_region ?_
                      refine tl_step rfl (oj_val (y_move (fe_t rfl)) ?_)
                      refine tl_step rfl (oj_val (y_eq (fe_t rfl) fe_c) ?_)
                      refine tl_step rfl (oj_val (y_move (fe_t rfl)) ?_)
                      refine tl_splitp (d := 109) rfl (fun hq19 => ?_) (fun hq20 => ?_)
                      · try (exfalso; omega)
                        all_goals
                          refine tl_want rfl rfl rfl (oj_val (y_move (fe_t rfl)) ?_)
                          refine tl_want rfl rfl rfl (oj_val (y_ldbA 2 Try.isAgg81 Try.sizeOf81 (fe_t rfl) rfl rfl rfl) ?_)
                          refine tl_want rfl rfl rfl (oj_val (y_move (fe_t rfl)) ?_)
                          refine tl_want rfl rfl rfl (oj_callv Try.call66 fe_f (fel_cons (fe_t rfl) (fel_cons (fe_t rfl) fel_nil)) (fun w' hS => vcount_ok R A n c zs w' (Rd.below hr hS.below) hn va i0 i1) ?_)
                          refine tl_want rfl rfl rfl (oj_val (y_eq (fe_t rfl) (fe_t rfl)) ?_)
                          refine tl_step rfl (oj_val (y_pickt (fe_t rfl) (fe_t rfl)) ?_)
                          refine tl_step rfl (oj_val (y_assign (fe_t rfl)) ?_)
                          refine tl_nil ?_
                          refine tx_then ?_
                          refine tr_ret ?_
                          refine tx_ret (res1 Try.results8 (rok_t rfl)) (fun w' hS => ?_)
                          exact ⟨ret_bool (by first | rfl | (simp; done)), hS.pick [] _ rfl (by decide)⟩
                      · try (exfalso; omega)
                        all_goals
                          refine tl_skip rfl rfl rfl rfl ?_
                          refine tl_skip rfl rfl rfl rfl ?_
                          refine tl_skip rfl rfl rfl rfl ?_
                          refine tl_skip rfl rfl rfl rfl ?_
                          refine tl_skip rfl rfl rfl rfl ?_
                          refine tl_step rfl (oj_val (y_pickf (fe_t rfl) fe_c) ?_)
                          refine tl_step rfl (oj_val (y_assign (fe_t rfl)) ?_)
                          refine tl_nil ?_
                          refine tx_then ?_
                          refine tr_ret ?_
                          refine tx_ret (res1 Try.results8 (rok_t rfl)) (fun w' hS => ?_)
                          exact ⟨ret_bool (by first | rfl | (simp; done)), hS.pick [] _ rfl (by decide)⟩
      · try (exfalso; omega)
        all_goals
          refine tl_want rfl rfl rfl (oj_val (y_fieldAddr (td := 3) Try.underlying81 rfl rfl Try.sizeOf3 (o' := 1) rfl (fe_t rfl)) ?_)
          refine tl_want rfl rfl rfl (oj_val (y_ldb 2 Try.isAgg3 (fe_t rfl) rfl rfl) ?_)
          refine tl_want rfl rfl rfl (oj_val (y_lss (fe_t rfl) fe_c) ?_)
          refine tl_step rfl (oj_val (y_pickf (fe_t rfl) (fe_t rfl)) ?_)
          refine tl_step rfl (oj_val (y_move (fe_t rfl)) ?_)
          refine tl_splitp (d := 60) rfl (fun hq21 => ?_) (fun hq22 => ?_)
          · try (exfalso; omega)
            all_goals
              refine tl_skip rfl rfl rfl rfl ?_
              refine tl_skip rfl rfl rfl rfl ?_
              refine tl_skip rfl rfl rfl rfl ?_
              refine tl_step rfl (oj_val (y_pickt (fe_t rfl) fe_c) ?_)
              refine tl_nil ?_
              refine tx_then ?_
              refine tr_condt (fe_t rfl) ?_
              refine tr_seq ?_
              refine tr_region ?_
              refine tl_step rfl (oj_val (y_move (fe_t rfl)) ?_)
              refine tl_step rfl (oj_val (y_neq (fe_t rfl) fe_c) ?_)
              refine tl_step rfl (oj_val (y_move (fe_t rfl)) ?_)
              refine tl_splitp (d := 67) rfl (fun hq23 => ?_) (fun hq24 => ?_)
              · try (exfalso; omega)
                all_goals
                  refine tl_skip rfl rfl rfl rfl ?_
                  refine tl_skip rfl rfl rfl rfl ?_
                  refine tl_step rfl (oj_val (y_pickt (fe_t rfl) fe_c) ?_)
                  refine tl_nil ?_
                  refine tx_then ?_
                  exfalso; omega
              · try (exfalso; omega)
                all_goals
                  refine tl_want rfl rfl rfl (oj_val (y_move (fe_t rfl)) ?_)
                  refine tl_want rfl rfl rfl (oj_val (y_neq (fe_t rfl) fe_c) ?_)
                  refine tl_step rfl (oj_val (y_pickf (fe_t rfl) (fe_t rfl)) ?_)
                  refine tl_nil ?_
                  refine tx_then ?_
                  refine tr_condp (fe_t rfl) (fun hq25 => ?_) (fun hq26 => ?_)
                  · exfalso; omega
                  · try (exfalso; omega)
                    all_goals
                      refine tr_skip ?_
                      refine tx_then ?_
                      refine tr_seq ?_
                      refine tr_seq ?_
                      refine tr_draw (sel _ [0, 1, 2]) (fun w h => h.sel _ rfl (by decide)) rfl ?_
                      refine ta_float (i := 0) rfl (by kernel_rfl) (wants_none rfl) (yq_of (y_ldbA 2 Try.isAgg81 Try.sizeOf81 (fe_t rfl) rfl rfl rfl)) ?_
                      refine ta_float (i := 1) rfl (by kernel_rfl) (wants_none rfl) (yq_call Try.call63 fe_f (fel_cons (fe_t rfl) fel_nil) (fun w' hS => of_bel (Sketch.right_yes A n c w' (Rd.below hr hS.below) hn (by omega) va))) ?_
                      refine ta_float (i := 2) rfl (by kernel_rfl) (wants_none rfl) (yq_of (y_ldbA 2 Try.isAgg81 Try.sizeOf81 (fe_t rfl) rfl rfl rfl)) ?_
                      refine ta_float (i := 3) rfl (by kernel_rfl) (wants_none rfl) (yq_call Try.call64 fe_f (fel_cons (fe_t rfl) fel_nil) (fun w' hS => of_bel (Sketch.vright_yes A n c w' (Rd.below hr hS.below) hn (by omega) va))) ?_
                      refine ta_float (i := 4) rfl (by kernel_rfl) (wants_none rfl) (yq_of (y_nebb Try.underlying4 (fe_t rfl) (fe_t rfl))) ?_
                      refine ta_float (i := 5) rfl (by kernel_rfl) (wants_none rfl) (yq_of (y_move (fe_t rfl))) ?_
                      refine ta_float (i := 6) rfl (by kernel_rfl) (wants_t rfl rfl rfl) (yq_of (y_move (fe_t rfl))) ?_
                      refine ta_float (i := 7) rfl (by kernel_rfl) (wants_t rfl rfl rfl) (yq_of (y_move (fe_t rfl))) ?_
                      refine ta_float (i := 8) rfl (by kernel_rfl) (wants_t rfl rfl rfl) (yq_of (y_neq (fe_t rfl) (fe_t rfl))) ?_
                      refine ta_float (i := 9) rfl (by kernel_rfl) (wants_none rfl) (yq_of (y_pickf (fe_t rfl) (fe_t rfl))) ?_
                      refine ta_float (i := 10) rfl (by kernel_rfl) (wants_none rfl) (yq_of (y_move (fe_t rfl))) ?_
                      refine ta_splitp (d := 92) rfl (fun hq27 => ?_) (fun hq28 => ?_)
                      · try (exfalso; omega)
                        all_goals
                          refine ta_skip (i := 11) rfl (by kernel_rfl) (wants_f rfl rfl rfl rfl) ?_
                          refine ta_skip (i := 12) rfl (by kernel_rfl) (wants_f rfl rfl rfl rfl) ?_
                          refine ta_skip (i := 13) rfl (by kernel_rfl) (wants_f rfl rfl rfl rfl) ?_
                          refine ta_skip (i := 14) rfl (by kernel_rfl) (wants_f rfl rfl rfl rfl) ?_
                          refine ta_float (i := 15) rfl (by kernel_rfl) (wants_none rfl) (yq_of (y_pickt (fe_t rfl) fe_c)) ?_
                          refine ta_done (by kernel_rfl) ?_
                          refine tx_then ?_
                          refine tr_condt (fe_t rfl) ?_
                          refine tr_seq ?_
                          refine tr_region ?_
                          refine tl_step rfl (oj_val (y_assign fe_c) ?_)
                          refine tl_nil ?_
                          refine tx_then ?_
                          refine tr_ret ?_
                          refine tx_then_ret ?_
                          refine tx_ret (res1 Try.results8 (rok_t rfl)) (fun w' hS => ?_)
                          exact ⟨ret_bool (by first | rfl | (simp; done)), hS.pick [] _ rfl (by decide)⟩
                      · try (exfalso; omega)
                        all_goals
                          refine ta_float (i := 11) rfl (by kernel_rfl) (wants_t rfl rfl rfl) (yq_of (y_ldbA 1 Try.isAgg81 Try.sizeOf81 (fe_t rfl) rfl rfl rfl)) ?_
                          refine ta_float (i := 12) rfl (by kernel_rfl) (wants_t rfl rfl rfl) (yq_of (y_ldbA 0 Try.isAgg81 Try.sizeOf81 (fe_t rfl) rfl rfl rfl)) ?_
                          refine ta_float (i := 13) rfl (by kernel_rfl) (wants_t rfl rfl rfl) (yq_call Try.call65 fe_f (fel_cons (fe_t rfl) (fel_cons (fe_t rfl) fel_nil)) (fun w' hS => of_bel (Sketch.same_any 0 0 none none 0 0 0 [] w' Rd.nil Rd.nil rfl (by omega)))) ?_
                          refine ta_float (i := 14) rfl (by kernel_rfl) (wants_t rfl rfl rfl) (yq_of (y_not (fe_t rfl))) ?_
                          refine ta_float (i := 15) rfl (by kernel_rfl) (wants_none rfl) (yq_of (y_pickf (fe_t rfl) (fe_t rfl))) ?_
                          refine ta_done (by kernel_rfl) ?_
                          refine tx_then ?_
                          refine tr_condf (fe_t rfl) ?_
                          refine tr_skip ?_
                          refine tx_then ?_
                          refine tr_seq ?_
                          refine tr_seq ?_
                          refine tr_region ?_
                          refine tl_step rfl (oj_val (y_ldbA 2 Try.isAgg81 Try.sizeOf81 (fe_t rfl) rfl rfl rfl) ?_)
                          refine tl_step rfl (oj_callv Try.call64 fe_f (fel_cons (fe_t rfl) fel_nil) (fun w' hS => of_bel (Sketch.vright_yes A n c w' (Rd.below hr hS.below) hn (by omega) va)) ?_)
                          refine tl_step rfl (oj_val (y_not (fe_t rfl)) ?_)
                          refine tl_nil ?_
                          refine tx_then ?_
                          refine tr_condf (fe_t rfl) ?_
                          refine tr_skip ?_
                          refine tx_then ?_
                          refine tr_seq ?_
                          refine tr_region ?_
                          refine tl_step rfl (oj_val (y_move (fe_t rfl)) ?_)
                          refine tl_step rfl (oj_val (y_eq (fe_t rfl) fe_c) ?_)
                          refine tl_step rfl (oj_val (y_move (fe_t rfl)) ?_)
                          refine tl_splitp (d := 109) rfl (fun hq29 => ?_) (fun hq30 => ?_)
                          · try (exfalso; omega)
                            all_goals
                              refine tl_want rfl rfl rfl (oj_val (y_move (fe_t rfl)) ?_)
                              refine tl_want rfl rfl rfl (oj_val (y_ldbA 2 Try.isAgg81 Try.sizeOf81 (fe_t rfl) rfl rfl rfl) ?_)
                              refine tl_want rfl rfl rfl (oj_val (y_move (fe_t rfl)) ?_)
                              refine tl_want rfl rfl rfl (oj_callv Try.call66 fe_f (fel_cons (fe_t rfl) (fel_cons (fe_t rfl) fel_nil)) (fun w' hS => vcount_ok R A n c zs w' (Rd.below hr hS.below) hn va i0 i1) ?_)
                              refine tl_want rfl rfl rfl (oj_val (y_eq (fe_t rfl) (fe_t rfl)) ?_)
                              refine tl_step rfl (oj_val (y_pickt (fe_t rfl) (fe_t rfl)) ?_)
                              refine tl_step rfl (oj_val (y_assign (fe_t rfl)) ?_)
                              refine tl_nil ?_
                              refine tx_then ?_
                              refine tr_ret ?_
                              refine tx_ret (res1 Try.results8 (rok_t rfl)) (fun w' hS => ?_)
                              exact ⟨ret_bool (by first | rfl | (simp; done)), hS.pick [] _ rfl (by decide)⟩
                          · try (exfalso; omega)
                            all_goals
                              refine tl_skip rfl rfl rfl rfl ?_
                              refine tl_skip rfl rfl rfl rfl ?_
                              refine tl_skip rfl rfl rfl rfl ?_
                              refine tl_skip rfl rfl rfl rfl ?_
                              refine tl_skip rfl rfl rfl rfl ?_
                              refine tl_step rfl (oj_val (y_pickf (fe_t rfl) fe_c) ?_)
                              refine tl_step rfl (oj_val (y_assign (fe_t rfl)) ?_)
                              refine tl_nil ?_
                              refine tx_then ?_
                              refine tr_ret ?_
                              refine tx_ret (res1 Try.results8 (rok_t rfl)) (fun w' hS => ?_)
                              exact ⟨ret_bool (by first | rfl | (simp; done)), hS.pick [] _ rfl (by decide)⟩
          · try (exfalso; omega)
            all_goals
              refine tl_want rfl rfl rfl (oj_val (y_fieldAddr (td := 3) Try.underlying81 rfl rfl Try.sizeOf3 (o' := 1) rfl (fe_t rfl)) ?_)
              refine tl_want rfl rfl rfl (oj_val (y_ldb 2 Try.isAgg3 (fe_t rfl) rfl rfl) ?_)
              refine tl_want rfl rfl rfl (oj_val (y_gtr (fe_t rfl) fe_c) ?_)
              refine tl_step rfl (oj_val (y_pickf (fe_t rfl) (fe_t rfl)) ?_)
              refine tl_nil ?_
              refine tx_then ?_
              refine tr_condp (fe_t rfl) (fun hq31 => ?_) (fun hq32 => ?_)
              · try (exfalso; omega)
                all_goals
                  refine tr_seq ?_
                  refine tr_region ?_
                  refine tl_step rfl (oj_val (y_move (fe_t rfl)) ?_)
                  refine tl_step rfl (oj_val (y_neq (fe_t rfl) fe_c) ?_)
                  refine tl_step rfl (oj_val (y_move (fe_t rfl)) ?_)
                  refine tl_splitp (d := 67) rfl (fun hq33 => ?_) (fun hq34 => ?_)
                  · try (exfalso; omega)
                    all_goals
                      refine tl_skip rfl rfl rfl rfl ?_
                      refine tl_skip rfl rfl rfl rfl ?_
                      refine tl_step rfl (oj_val (y_pickt (fe_t rfl) fe_c) ?_)
                      refine tl_nil ?_
                      refine tx_then ?_
                      exfalso; omega
                  · try (exfalso; omega)
                    all_goals
                      refine tl_want rfl rfl rfl (oj_val (y_move (fe_t rfl)) ?_)
                      refine tl_want rfl rfl rfl (oj_val (y_neq (fe_t rfl) fe_c) ?_)
                      refine tl_step rfl (oj_val (y_pickf (fe_t rfl) (fe_t rfl)) ?_)
                      refine tl_nil ?_
                      refine tx_then ?_
                      refine tr_condp (fe_t rfl) (fun hq35 => ?_) (fun hq36 => ?_)
                      · exfalso; omega
                      · try (exfalso; omega)
                        all_goals
                          refine tr_skip ?_
                          refine tx_then ?_
                          refine tr_seq ?_
                          refine tr_seq ?_
                          refine tr_draw (sel _ [0, 1, 2]) (fun w h => h.sel _ rfl (by decide)) rfl ?_
                          refine ta_float (i := 0) rfl (by kernel_rfl) (wants_none rfl) (yq_of (y_ldbA 2 Try.isAgg81 Try.sizeOf81 (fe_t rfl) rfl rfl rfl)) ?_
                          refine ta_float (i := 1) rfl (by kernel_rfl) (wants_none rfl) (yq_call Try.call63 fe_f (fel_cons (fe_t rfl) fel_nil) (fun w' hS => of_bel (Sketch.right_yes A n c w' (Rd.below hr hS.below) hn (by omega) va))) ?_
                          refine ta_float (i := 2) rfl (by kernel_rfl) (wants_none rfl) (yq_of (y_ldbA 2 Try.isAgg81 Try.sizeOf81 (fe_t rfl) rfl rfl rfl)) ?_
                          refine ta_float (i := 3) rfl (by kernel_rfl) (wants_none rfl) (yq_call Try.call64 fe_f (fel_cons (fe_t rfl) fel_nil) (fun w' hS => of_bel (Sketch.vright_yes A n c w' (Rd.below hr hS.below) hn (by omega) va))) ?_
                          refine ta_float (i := 4) rfl (by kernel_rfl) (wants_none rfl) (yq_of (y_nebb Try.underlying4 (fe_t rfl) (fe_t rfl))) ?_
                          refine ta_float (i := 5) rfl (by kernel_rfl) (wants_none rfl) (yq_of (y_move (fe_t rfl))) ?_
                          refine ta_float (i := 6) rfl (by kernel_rfl) (wants_t rfl rfl rfl) (yq_of (y_move (fe_t rfl))) ?_
                          refine ta_float (i := 7) rfl (by kernel_rfl) (wants_t rfl rfl rfl) (yq_of (y_move (fe_t rfl))) ?_
                          refine ta_float (i := 8) rfl (by kernel_rfl) (wants_t rfl rfl rfl) (yq_of (y_neq (fe_t rfl) (fe_t rfl))) ?_
                          refine ta_float (i := 9) rfl (by kernel_rfl) (wants_none rfl) (yq_of (y_pickf (fe_t rfl) (fe_t rfl))) ?_
                          refine ta_float (i := 10) rfl (by kernel_rfl) (wants_none rfl) (yq_of (y_move (fe_t rfl))) ?_
                          refine ta_splitp (d := 92) rfl (fun hq37 => ?_) (fun hq38 => ?_)
                          · try (exfalso; omega)
                            all_goals
                              refine ta_skip (i := 11) rfl (by kernel_rfl) (wants_f rfl rfl rfl rfl) ?_
                              refine ta_skip (i := 12) rfl (by kernel_rfl) (wants_f rfl rfl rfl rfl) ?_
                              refine ta_skip (i := 13) rfl (by kernel_rfl) (wants_f rfl rfl rfl rfl) ?_
                              refine ta_skip (i := 14) rfl (by kernel_rfl) (wants_f rfl rfl rfl rfl) ?_
                              refine ta_float (i := 15) rfl (by kernel_rfl) (wants_none rfl) (yq_of (y_pickt (fe_t rfl) fe_c)) ?_
                              refine ta_done (by kernel_rfl) ?_
                              refine tx_then ?_
                              refine tr_condt (fe_t rfl) ?_
                              refine tr_seq ?_
                              refine tr_region ?_
                              refine tl_step rfl (oj_val (y_assign fe_c) ?_)
                              refine tl_nil ?_
                              refine tx_then ?_
                              refine tr_ret ?_
                              refine tx_then_ret ?_
                              refine tx_ret (res1 Try.results8 (rok_t rfl)) (fun w' hS => ?_)
                              exact ⟨ret_bool (by first | rfl | (simp; done)), hS.pick [] _ rfl (by decide)⟩
                          · try (exfalso; omega)
                            all_goals
                              refine ta_float (i := 11) rfl (by kernel_rfl) (wants_t rfl rfl rfl) (yq_of (y_ldbA 1 Try.isAgg81 Try.sizeOf81 (fe_t rfl) rfl rfl rfl)) ?_
                              refine ta_float (i := 12) rfl (by kernel_rfl) (wants_t rfl rfl rfl) (yq_of (y_ldbA 0 Try.isAgg81 Try.sizeOf81 (fe_t rfl) rfl rfl rfl)) ?_
                              refine ta_float (i := 13) rfl (by kernel_rfl) (wants_t rfl rfl rfl) (yq_call Try.call65 fe_f (fel_cons (fe_t rfl) (fel_cons (fe_t rfl) fel_nil)) (fun w' hS => of_bel (Sketch.same_any 0 0 none none 0 0 0 [] w' Rd.nil Rd.nil rfl (by omega)))) ?_
                              refine ta_float (i := 14) rfl (by kernel_rfl) (wants_t rfl rfl rfl) (yq_of (y_not (fe_t rfl))) ?_
                              refine ta_float (i := 15) rfl (by kernel_rfl) (wants_none rfl) (yq_of (y_pickf (fe_t rfl) (fe_t rfl))) ?_
                              refine ta_done (by kernel_rfl) ?_
                              refine tx_then ?_
                              refine tr_condf (fe_t rfl) ?_
                              refine tr_skip ?_
                              refine tx_then ?_
                              refine tr_seq ?_
                              refine tr_seq ?_
                              refine tr_region ?_
                              refine tl_step rfl (oj_val (y_ldbA 2 Try.isAgg81 Try.sizeOf81 (fe_t rfl) rfl rfl rfl) ?_)
                              refine tl_step rfl (oj_callv Try.call64 fe_f (fel_cons (fe_t rfl) fel_nil) (fun w' hS => of_bel (Sketch.vright_yes A n c w' (Rd.below hr hS.below) hn (by omega) va)) ?_)
                              refine tl_step rfl (oj_val (y_not (fe_t rfl)) ?_)
                              refine tl_nil ?_
                              refine tx_then ?_
                              refine tr_condf (fe_t rfl) ?_
                              refine tr_skip ?_
                              refine tx_then ?_
                              refine tr_seq ?_
                              refine tr_region ?_
                              refine tl_step rfl (oj_val (y_move (fe_t rfl)) ?_)
                              refine tl_step rfl (oj_val (y_eq (fe_t rfl) fe_c) ?_)
                              refine tl_step rfl (oj_val (y_move (fe_t rfl)) ?_)
                              refine tl_splitp (d := 109) rfl (fun hq39 => ?_) (fun hq40 => ?_)
                              · try (exfalso; omega)
                                all_goals
                                  refine tl_want rfl rfl rfl (oj_val (y_move (fe_t rfl)) ?_)
                                  refine tl_want rfl rfl rfl (oj_val (y_ldbA 2 Try.isAgg81 Try.sizeOf81 (fe_t rfl) rfl rfl rfl) ?_)
                                  refine tl_want rfl rfl rfl (oj_val (y_move (fe_t rfl)) ?_)
                                  refine tl_want rfl rfl rfl (oj_callv Try.call66 fe_f (fel_cons (fe_t rfl) (fel_cons (fe_t rfl) fel_nil)) (fun w' hS => vcount_ok R A n c zs w' (Rd.below hr hS.below) hn va i0 i1) ?_)
                                  refine tl_want rfl rfl rfl (oj_val (y_eq (fe_t rfl) (fe_t rfl)) ?_)
                                  refine tl_step rfl (oj_val (y_pickt (fe_t rfl) (fe_t rfl)) ?_)
                                  refine tl_step rfl (oj_val (y_assign (fe_t rfl)) ?_)
                                  refine tl_nil ?_
                                  refine tx_then ?_
                                  refine tr_ret ?_
                                  refine tx_ret (res1 Try.results8 (rok_t rfl)) (fun w' hS => ?_)
                                  exact ⟨ret_bool (by first | rfl | (simp; done)), hS.pick [] _ rfl (by decide)⟩
                              · try (exfalso; omega)
                                all_goals
                                  refine tl_skip rfl rfl rfl rfl ?_
                                  refine tl_skip rfl rfl rfl rfl ?_
                                  refine tl_skip rfl rfl rfl rfl ?_
                                  refine tl_skip rfl rfl rfl rfl ?_
                                  refine tl_skip rfl rfl rfl rfl ?_
                                  refine tl_step rfl (oj_val (y_pickf (fe_t rfl) fe_c) ?_)
                                  refine tl_step rfl (oj_val (y_assign (fe_t rfl)) ?_)
                                  refine tl_nil ?_
                                  refine tx_then ?_
                                  refine tr_ret ?_
                                  refine tx_ret (res1 Try.results8 (rok_t rfl)) (fun w' hS => ?_)
                                  exact ⟨ret_bool (by first | rfl | (simp; done)), hS.pick [] _ rfl (by decide)⟩
              · exfalso; omega

set_option maxRecDepth 100000 in
set_option maxHeartbeats 4000000 in
theorem law_x_full {width row id nn : Int} {cf : Bool} (R : Nat) (A : Option Addr) (n c : Nat) (zs : List Int) (w : World) (hr : Rd w A (zs.map (.int .i64))) (hn : zs.length = n) (va : Sketch.vright (R : Int) width zs = true) (i0 : 0 ≤ id) (i1 : id < 18446744073709551616) (hpk : row < 0 ∨ 7 < row ∨ width < 1 ∨ 64 < width) (hn0 : 0 ≤ nn) (hn1 : nn ≤ 1073741824) (hf : bigs zs (nw cf (least zs width id R) nn) width id R = true) :
    Calls Try.prog 8 #[.agg #[(.int .i64 ((R : Int))), (.int .i64 width), .slice A n c], (.int .i64 row), .int .u64 id, (.int .i64 nn), .bool cf] w fun e w' => e = .returned (.bool true) ∧ St w w' [] := by
  obtain ⟨⟨d0, d1⟩, ⟨w0, w1⟩, hln⟩ := vright_facts va
  have hR8 : (R : Int) * width ≤ 8 * 64 := Int.mul_le_mul (by omega) w1 (by omega) (by omega)
  have hpos := Sketch.dims_prod (Sketch.dims_iff.2 ⟨⟨d0, d1⟩, w0, w1⟩)
  refine calls_tr Try.func8 Try.ntmps8 rfl rfl (St.refl _) ?_
  refine tr_seq ?_
  refine tr_region ?_
  refine tl_step rfl (oj_box (fe_t rfl) (fun sb => ?_))
  refine tl_step rfl (oj_val (y_assign fe_c) ?_)
  refine tl_nil ?_
  refine tx_then ?_
  refine tr_seq ?_
  refine tr_region ?_
  refine tl_step rfl (oj_val (y_move (fe_t rfl)) ?_)
  refine tl_step rfl (oj_val (y_fieldAddr (td := 3) Try.underlying81 rfl rfl Try.sizeOf3 (o' := 1) rfl (fe_t rfl)) ?_)
  refine tl_step rfl (oj_val (y_ldb 0 Try.isAgg3 (fe_t rfl) rfl rfl) ?_)
  refine tl_step rfl (oj_val (y_move (fe_t rfl)) ?_)
  refine tl_step rfl (oj_callv Try.call58 fe_f (fel_cons (fe_t rfl) (fel_cons (fe_t rfl) (fel_cons (fe_t rfl) fel_nil))) (fun w' hS => place_bad _ _ _ w' hpk) ?_)
  refine tl_step rfl (oj_val (y_move (fe_t rfl)) ?_)
  refine tl_step rfl (oj_val (y_extract (fe_t rfl) rfl) ?_)
  refine tl_step rfl (oj_val (y_extract (fe_t rfl) rfl) ?_)
  refine tl_step rfl (oj_val (y_assign (fe_t rfl)) ?_)
  refine tl_step rfl (oj_val (y_assign (fe_t rfl)) ?_)
  refine tl_nil ?_
  refine tx_then ?_
  refine tr_seq ?_
  refine tr_region ?_
  refine tl_step rfl (oj_val (y_ldbA 0 Try.isAgg81 Try.sizeOf81 (fe_t rfl) rfl rfl rfl) ?_)
  refine tl_step rfl (oj_val (y_move (fe_t rfl)) ?_)
  refine tl_step rfl (oj_callv Try.call59 fe_f (fel_cons (fe_t rfl) (fel_cons (fe_t rfl) fel_nil)) (fun w' hS => count_ok R A n c zs w' (Rd.below hr hS.below) hn va i0 i1) ?_)
  refine tl_step rfl (oj_val (y_move (fe_t rfl)) ?_)
  refine tl_step rfl (oj_val (y_extract (fe_t rfl) rfl) ?_)
  refine tl_step rfl (oj_val (y_extract (fe_t rfl) rfl) ?_)
  refine tl_step rfl (oj_val (y_assign (fe_t rfl)) ?_)
  refine tl_step rfl (oj_val (y_assign (fe_t rfl)) ?_)
  refine tl_nil ?_
  refine tx_then ?_
  refine tr_seq ?_
  refine tr_region ?_
  refine tl_step rfl (oj_val (y_ldbA 0 Try.isAgg81 Try.sizeOf81 (fe_t rfl) rfl rfl rfl) ?_)
  refine tl_step rfl (oj_val (y_move (fe_t rfl)) ?_)
  refine tl_step rfl (oj_val (y_move (fe_t rfl)) ?_)
  refine tl_step rfl (oj_val (y_move (fe_t rfl)) ?_)
  refine tl_step rfl (oj_callv Try.call60 fe_f (fel_cons (fe_t rfl) (fel_cons (fe_t rfl) (fel_cons (fe_t rfl) (fel_cons (fe_t rfl) fel_nil)))) (fun w' hS => Aadd_full R A n c zs w' (Rd.below hr hS.below) hn va i0 i1 hn0 hn1 hf) ?_)
  refine tl_step rfl (oj_val (y_move (fe_t rfl)) ?_)
  refine tl_step rfl (oj_val (y_extract (fe_t rfl) rfl) ?_)
  refine tl_step rfl (oj_val (y_extract (fe_t rfl) rfl) ?_)
  refine tl_step rfl (oj_alloc Try.zeroValue81 (fun ab => ?_))
  refine tl_step rfl (oj_storeW 0 Try.sizeOf81 (fe_t rfl) (fe_t rfl) rfl rfl rfl rfl rfl (?_))
  refine tl_step rfl (oj_val (y_assign (fe_t rfl)) ?_)
  refine tl_nil ?_
  refine tx_then ?_
  refine tr_seq ?_
  refine tr_region ?_
  refine tl_step rfl (oj_val (y_ldbA 1 Try.isAgg81 Try.sizeOf81 (fe_t rfl) rfl rfl rfl) ?_)
  refine tl_step rfl (oj_val (y_move (fe_t rfl)) ?_)
  refine tl_step rfl (oj_val (y_move (fe_t rfl)) ?_)
  refine tl_step rfl (oj_val (y_move (fe_t rfl)) ?_)
  refine tl_step rfl (oj_callv Try.call61 fe_f (fel_cons (fe_t rfl) (fel_cons (fe_t rfl) (fel_cons (fe_t rfl) (fel_cons (fe_t rfl) fel_nil)))) (fun w' hS => Vadd_full R A n c zs w' (Rd.below hr hS.below) hn va i0 i1 hn0 hn1 hf) ?_)
  refine tl_step rfl (oj_val (y_move (fe_t rfl)) ?_)
  refine tl_step rfl (oj_val (y_extract (fe_t rfl) rfl) ?_)
  refine tl_step rfl (oj_val (y_extract (fe_t rfl) rfl) ?_)
  refine tl_step rfl (oj_alloc Try.zeroValue81 (fun bb => ?_))
  refine tl_step rfl (oj_storeW 0 Try.sizeOf81 (fe_t rfl) (fe_t rfl) rfl rfl rfl rfl rfl (?_))
  refine tl_step rfl (oj_val (y_assign (fe_t rfl)) ?_)
  refine tl_nil ?_
  refine tx_then ?_
  refine tr_seq ?_
  refine tr_seq ?_
  refine tr_region ?_
  refine tl_step rfl (oj_val (y_move (fe_t rfl)) ?_)
  refine tl_step rfl (oj_val (y_lss (fe_t rfl) fe_c) ?_)
  refine tl_step rfl (oj_val (y_move (fe_t rfl)) ?_)
  refine tl_splitp (d := 51) rfl (fun hq1 => ?_) (fun hq2 => ?_)
  · try (exfalso; omega)
    all_goals
      refine tl_skip rfl rfl rfl rfl ?_
      refine tl_skip rfl rfl rfl rfl ?_
      refine tl_step rfl (oj_val (y_pickt (fe_t rfl) fe_c) ?_)
      refine tl_step rfl (oj_val (y_move (fe_t rfl)) ?_)
      refine tl_skip rfl rfl rfl rfl ?_
      refine tl_skip rfl rfl rfl rfl ?_
      refine tl_skip rfl rfl rfl rfl ?_
      refine tl_step rfl (oj_val (y_pickt (fe_t rfl) fe_c) ?_)
      refine tl_step rfl (oj_val (y_move (fe_t rfl)) ?_)
      refine tl_skip rfl rfl rfl rfl ?_
      refine tl_skip rfl rfl rfl rfl ?_
      refine tl_skip rfl rfl rfl rfl ?_
      refine tl_step rfl (oj_val (y_pickt (fe_t rfl) fe_c) ?_)
      refine tl_nil ?_
      refine tx_then ?_
      refine tr_condt (fe_t rfl) ?_
      refine tr_seq ?_
      refine tr_region ?_
      refine tl_step rfl (oj_val (y_move (fe_t rfl)) ?_)
      refine tl_step rfl (oj_val (y_neq (fe_t rfl) fe_c) ?_)
      refine tl_step rfl (oj_val (y_move (fe_t rfl)) ?_)
      refine tl_splitp (d := 67) rfl (fun hq3 => ?_) (fun hq4 => ?_)
      · try (exfalso; omega)
        all_goals
          refine tl_skip rfl rfl rfl rfl ?_
          refine tl_skip rfl rfl rfl rfl ?_
          refine tl_step rfl (oj_val (y_pickt (fe_t rfl) fe_c) ?_)
          refine tl_nil ?_
          refine tx_then ?_
          exfalso; omega
      · try (exfalso; omega)
        all_goals
          refine tl_want rfl rfl rfl (oj_val (y_move (fe_t rfl)) ?_)
          refine tl_want rfl rfl rfl (oj_val (y_neq (fe_t rfl) fe_c) ?_)
          refine tl_step rfl (oj_val (y_pickf (fe_t rfl) (fe_t rfl)) ?_)
          refine tl_nil ?_
          refine tx_then ?_
          refine tr_condp (fe_t rfl) (fun hq5 => ?_) (fun hq6 => ?_)
          · exfalso; omega
          · try (exfalso; omega)
            all_goals
              refine tr_skip ?_
              refine tx_then ?_
              refine tr_seq ?_
              refine tr_seq ?_
              refine tr_draw (sel _ [0, 1, 2]) (fun w h => h.sel _ rfl (by decide)) rfl ?_
              refine ta_float (i := 0) rfl (by kernel_rfl) (wants_none rfl) (yq_of (y_ldbA 2 Try.isAgg81 Try.sizeOf81 (fe_t rfl) rfl rfl rfl)) ?_
              refine ta_float (i := 1) rfl (by kernel_rfl) (wants_none rfl) (yq_call Try.call63 fe_f (fel_cons (fe_t rfl) fel_nil) (fun w' hS => of_bel (Sketch.right_yes A n c w' (Rd.below hr hS.below) hn (by omega) va))) ?_
              refine ta_float (i := 2) rfl (by kernel_rfl) (wants_none rfl) (yq_of (y_ldbA 2 Try.isAgg81 Try.sizeOf81 (fe_t rfl) rfl rfl rfl)) ?_
              refine ta_float (i := 3) rfl (by kernel_rfl) (wants_none rfl) (yq_call Try.call64 fe_f (fel_cons (fe_t rfl) fel_nil) (fun w' hS => of_bel (Sketch.vright_yes A n c w' (Rd.below hr hS.below) hn (by omega) va))) ?_
              refine ta_float (i := 4) rfl (by kernel_rfl) (wants_none rfl) (yq_of (y_nebb Try.underlying4 (fe_t rfl) (fe_t rfl))) ?_
              refine ta_float (i := 5) rfl (by kernel_rfl) (wants_none rfl) (yq_of (y_move (fe_t rfl))) ?_
              refine ta_float (i := 6) rfl (by kernel_rfl) (wants_t rfl rfl rfl) (yq_of (y_move (fe_t rfl))) ?_
              refine ta_float (i := 7) rfl (by kernel_rfl) (wants_t rfl rfl rfl) (yq_of (y_move (fe_t rfl))) ?_
              refine ta_float (i := 8) rfl (by kernel_rfl) (wants_t rfl rfl rfl) (yq_of (y_neq (fe_t rfl) (fe_t rfl))) ?_
              refine ta_float (i := 9) rfl (by kernel_rfl) (wants_none rfl) (yq_of (y_pickf (fe_t rfl) (fe_t rfl))) ?_
              refine ta_float (i := 10) rfl (by kernel_rfl) (wants_none rfl) (yq_of (y_move (fe_t rfl))) ?_
              refine ta_splitp (d := 92) rfl (fun hq7 => ?_) (fun hq8 => ?_)
              · try (exfalso; omega)
                all_goals
                  refine ta_skip (i := 11) rfl (by kernel_rfl) (wants_f rfl rfl rfl rfl) ?_
                  refine ta_skip (i := 12) rfl (by kernel_rfl) (wants_f rfl rfl rfl rfl) ?_
                  refine ta_skip (i := 13) rfl (by kernel_rfl) (wants_f rfl rfl rfl rfl) ?_
                  refine ta_skip (i := 14) rfl (by kernel_rfl) (wants_f rfl rfl rfl rfl) ?_
                  refine ta_float (i := 15) rfl (by kernel_rfl) (wants_none rfl) (yq_of (y_pickt (fe_t rfl) fe_c)) ?_
                  refine ta_done (by kernel_rfl) ?_
                  refine tx_then ?_
                  refine tr_condt (fe_t rfl) ?_
                  refine tr_seq ?_
                  refine tr_region ?_
                  refine tl_step rfl (oj_val (y_assign fe_c) ?_)
                  refine tl_nil ?_
                  refine tx_then ?_
                  refine tr_ret ?_
                  refine tx_then_ret ?_
                  refine tx_ret (res1 Try.results8 (rok_t rfl)) (fun w' hS => ?_)
                  exact ⟨ret_bool (by first | rfl | (simp; done)), hS.pick [] _ rfl (by decide)⟩
              · try (exfalso; omega)
                all_goals
                  refine ta_float (i := 11) rfl (by kernel_rfl) (wants_t rfl rfl rfl) (yq_of (y_ldbA 1 Try.isAgg81 Try.sizeOf81 (fe_t rfl) rfl rfl rfl)) ?_
                  refine ta_float (i := 12) rfl (by kernel_rfl) (wants_t rfl rfl rfl) (yq_of (y_ldbA 0 Try.isAgg81 Try.sizeOf81 (fe_t rfl) rfl rfl rfl)) ?_
                  refine ta_float (i := 13) rfl (by kernel_rfl) (wants_t rfl rfl rfl) (yq_call Try.call65 fe_f (fel_cons (fe_t rfl) (fel_cons (fe_t rfl) fel_nil)) (fun w' hS => of_bel (Sketch.same_any 0 0 none none 0 0 0 [] w' Rd.nil Rd.nil rfl (by omega)))) ?_
                  refine ta_float (i := 14) rfl (by kernel_rfl) (wants_t rfl rfl rfl) (yq_of (y_not (fe_t rfl))) ?_
                  refine ta_float (i := 15) rfl (by kernel_rfl) (wants_none rfl) (yq_of (y_pickf (fe_t rfl) (fe_t rfl))) ?_
                  refine ta_done (by kernel_rfl) ?_
                  refine tx_then ?_
                  refine tr_condf (fe_t rfl) ?_
                  refine tr_skip ?_
                  refine tx_then ?_
                  refine tr_seq ?_
                  refine tr_seq ?_
                  refine tr_region ?_
                  refine tl_step rfl (oj_val (y_ldbA 2 Try.isAgg81 Try.sizeOf81 (fe_t rfl) rfl rfl rfl) ?_)
                  refine tl_step rfl (oj_callv Try.call64 fe_f (fel_cons (fe_t rfl) fel_nil) (fun w' hS => of_bel (Sketch.vright_yes A n c w' (Rd.below hr hS.below) hn (by omega) va)) ?_)
                  refine tl_step rfl (oj_val (y_not (fe_t rfl)) ?_)
                  refine tl_nil ?_
                  refine tx_then ?_
                  refine tr_condf (fe_t rfl) ?_
                  refine tr_skip ?_
                  refine tx_then ?_
                  refine tr_seq ?_
                  refine tr_region ?_
                  refine tl_step rfl (oj_val (y_move (fe_t rfl)) ?_)
                  refine tl_step rfl (oj_val (y_eq (fe_t rfl) fe_c) ?_)
                  refine tl_step rfl (oj_val (y_move (fe_t rfl)) ?_)
                  refine tl_splitp (d := 109) rfl (fun hq9 => ?_) (fun hq10 => ?_)
                  · try (exfalso; omega)
                    all_goals
                      refine tl_want rfl rfl rfl (oj_val (y_move (fe_t rfl)) ?_)
                      refine tl_want rfl rfl rfl (oj_val (y_ldbA 2 Try.isAgg81 Try.sizeOf81 (fe_t rfl) rfl rfl rfl) ?_)
                      refine tl_want rfl rfl rfl (oj_val (y_move (fe_t rfl)) ?_)
                      refine tl_want rfl rfl rfl (oj_callv Try.call66 fe_f (fel_cons (fe_t rfl) (fel_cons (fe_t rfl) fel_nil)) (fun w' hS => vcount_ok R A n c zs w' (Rd.below hr hS.below) hn va i0 i1) ?_)
                      refine tl_want rfl rfl rfl (oj_val (y_eq (fe_t rfl) (fe_t rfl)) ?_)
                      refine tl_step rfl (oj_val (y_pickt (fe_t rfl) (fe_t rfl)) ?_)
                      refine tl_step rfl (oj_val (y_assign (fe_t rfl)) ?_)
                      refine tl_nil ?_
                      refine tx_then ?_
                      refine tr_ret ?_
                      refine tx_ret (res1 Try.results8 (rok_t rfl)) (fun w' hS => ?_)
                      exact ⟨ret_bool (by first | rfl | (simp; done)), hS.pick [] _ rfl (by decide)⟩
                  · try (exfalso; omega)
                    all_goals
                      refine tl_skip rfl rfl rfl rfl ?_
                      refine tl_skip rfl rfl rfl rfl ?_
                      refine tl_skip rfl rfl rfl rfl ?_
                      refine tl_skip rfl rfl rfl rfl ?_
                      refine tl_skip rfl rfl rfl rfl ?_
                      refine tl_step rfl (oj_val (y_pickf (fe_t rfl) fe_c) ?_)
                      refine tl_step rfl (oj_val (y_assign (fe_t rfl)) ?_)
                      refine tl_nil ?_
                      refine tx_then ?_
                      refine tr_ret ?_
                      refine tx_ret (res1 Try.results8 (rok_t rfl)) (fun w' hS => ?_)
                      exact ⟨ret_bool (by first | rfl | (simp; done)), hS.pick [] _ rfl (by decide)⟩
  · try (exfalso; omega)
    all_goals
      refine tl_want rfl rfl rfl (oj_val (y_move (fe_t rfl)) ?_)
      refine tl_want rfl rfl rfl (oj_val (y_gtr (fe_t rfl) fe_c) ?_)
      refine tl_step rfl (oj_val (y_pickf (fe_t rfl) (fe_t rfl)) ?_)
      refine tl_step rfl (oj_val (y_move (fe_t rfl)) ?_)
      refine tl_splitp (d := 55) rfl (fun hq11 => ?_) (fun hq12 => ?_)
      · try (exfalso; omega)
        all_goals
          refine tl_skip rfl rfl rfl rfl ?_
          refine tl_skip rfl rfl rfl rfl ?_
          refine tl_skip rfl rfl rfl rfl ?_
          refine tl_step rfl (oj_val (y_pickt (fe_t rfl) fe_c) ?_)
          refine tl_step rfl (oj_val (y_move (fe_t rfl)) ?_)
          refine tl_skip rfl rfl rfl rfl ?_
          refine tl_skip rfl rfl rfl rfl ?_
          refine tl_skip rfl rfl rfl rfl ?_
          refine tl_step rfl (oj_val (y_pickt (fe_t rfl) fe_c) ?_)
          refine tl_nil ?_
          refine tx_then ?_
          refine tr_condt (fe_t rfl) ?_
          refine tr_seq ?_
          refine tr_region ?_
          refine tl_step rfl (oj_val (y_move (fe_t rfl)) ?_)
          refine tl_step rfl (oj_val (y_neq (fe_t rfl) fe_c) ?_)
          refine tl_step rfl (oj_val (y_move (fe_t rfl)) ?_)
          refine tl_splitp (d := 67) rfl (fun hq13 => ?_) (fun hq14 => ?_)
          · try (exfalso; omega)
            all_goals
              refine tl_skip rfl rfl rfl rfl ?_
              refine tl_skip rfl rfl rfl rfl ?_
              refine tl_step rfl (oj_val (y_pickt (fe_t rfl) fe_c) ?_)
              refine tl_nil ?_
              refine tx_then ?_
              exfalso; omega
          · try (exfalso; omega)
            all_goals
              refine tl_want rfl rfl rfl (oj_val (y_move (fe_t rfl)) ?_)
              refine tl_want rfl rfl rfl (oj_val (y_neq (fe_t rfl) fe_c) ?_)
              refine tl_step rfl (oj_val (y_pickf (fe_t rfl) (fe_t rfl)) ?_)
              refine tl_nil ?_
              refine tx_then ?_
              refine tr_condp (fe_t rfl) (fun hq15 => ?_) (fun hq16 => ?_)
              · exfalso; omega
              · try (exfalso; omega)
                all_goals
                  refine tr_skip ?_
                  refine tx_then ?_
                  refine tr_seq ?_
                  refine tr_seq ?_
                  refine tr_draw (sel _ [0, 1, 2]) (fun w h => h.sel _ rfl (by decide)) rfl ?_
                  refine ta_float (i := 0) rfl (by kernel_rfl) (wants_none rfl) (yq_of (y_ldbA 2 Try.isAgg81 Try.sizeOf81 (fe_t rfl) rfl rfl rfl)) ?_
                  refine ta_float (i := 1) rfl (by kernel_rfl) (wants_none rfl) (yq_call Try.call63 fe_f (fel_cons (fe_t rfl) fel_nil) (fun w' hS => of_bel (Sketch.right_yes A n c w' (Rd.below hr hS.below) hn (by omega) va))) ?_
                  refine ta_float (i := 2) rfl (by kernel_rfl) (wants_none rfl) (yq_of (y_ldbA 2 Try.isAgg81 Try.sizeOf81 (fe_t rfl) rfl rfl rfl)) ?_
                  refine ta_float (i := 3) rfl (by kernel_rfl) (wants_none rfl) (yq_call Try.call64 fe_f (fel_cons (fe_t rfl) fel_nil) (fun w' hS => of_bel (Sketch.vright_yes A n c w' (Rd.below hr hS.below) hn (by omega) va))) ?_
                  refine ta_float (i := 4) rfl (by kernel_rfl) (wants_none rfl) (yq_of (y_nebb Try.underlying4 (fe_t rfl) (fe_t rfl))) ?_
                  refine ta_float (i := 5) rfl (by kernel_rfl) (wants_none rfl) (yq_of (y_move (fe_t rfl))) ?_
                  refine ta_float (i := 6) rfl (by kernel_rfl) (wants_t rfl rfl rfl) (yq_of (y_move (fe_t rfl))) ?_
                  refine ta_float (i := 7) rfl (by kernel_rfl) (wants_t rfl rfl rfl) (yq_of (y_move (fe_t rfl))) ?_
                  refine ta_float (i := 8) rfl (by kernel_rfl) (wants_t rfl rfl rfl) (yq_of (y_neq (fe_t rfl) (fe_t rfl))) ?_
                  refine ta_float (i := 9) rfl (by kernel_rfl) (wants_none rfl) (yq_of (y_pickf (fe_t rfl) (fe_t rfl))) ?_
                  refine ta_float (i := 10) rfl (by kernel_rfl) (wants_none rfl) (yq_of (y_move (fe_t rfl))) ?_
                  refine ta_splitp (d := 92) rfl (fun hq17 => ?_) (fun hq18 => ?_)
                  · try (exfalso; omega)
                    all_goals
                      refine ta_skip (i := 11) rfl (by kernel_rfl) (wants_f rfl rfl rfl rfl) ?_
                      refine ta_skip (i := 12) rfl (by kernel_rfl) (wants_f rfl rfl rfl rfl) ?_
                      refine ta_skip (i := 13) rfl (by kernel_rfl) (wants_f rfl rfl rfl rfl) ?_
                      refine ta_skip (i := 14) rfl (by kernel_rfl) (wants_f rfl rfl rfl rfl) ?_
                      refine ta_float (i := 15) rfl (by kernel_rfl) (wants_none rfl) (yq_of (y_pickt (fe_t rfl) fe_c)) ?_
                      refine ta_done (by kernel_rfl) ?_
                      refine tx_then ?_
                      refine tr_condt (fe_t rfl) ?_
                      refine tr_seq ?_
                      refine tr_region ?_
                      refine tl_step rfl (oj_val (y_assign fe_c) ?_)
                      refine tl_nil ?_
                      refine tx_then ?_
                      refine tr_ret ?_
                      refine tx_then_ret ?_
                      refine tx_ret (res1 Try.results8 (rok_t rfl)) (fun w' hS => ?_)
                      exact ⟨ret_bool (by first | rfl | (simp; done)), hS.pick [] _ rfl (by decide)⟩
                  · try (exfalso; omega)
                    all_goals
                      refine ta_float (i := 11) rfl (by kernel_rfl) (wants_t rfl rfl rfl) (yq_of (y_ldbA 1 Try.isAgg81 Try.sizeOf81 (fe_t rfl) rfl rfl rfl)) ?_
                      refine ta_float (i := 12) rfl (by kernel_rfl) (wants_t rfl rfl rfl) (yq_of (y_ldbA 0 Try.isAgg81 Try.sizeOf81 (fe_t rfl) rfl rfl rfl)) ?_
                      refine ta_float (i := 13) rfl (by kernel_rfl) (wants_t rfl rfl rfl) (yq_call Try.call65 fe_f (fel_cons (fe_t rfl) (fel_cons (fe_t rfl) fel_nil)) (fun w' hS => of_bel (Sketch.same_any 0 0 none none 0 0 0 [] w' Rd.nil Rd.nil rfl (by omega)))) ?_
                      refine ta_float (i := 14) rfl (by kernel_rfl) (wants_t rfl rfl rfl) (yq_of (y_not (fe_t rfl))) ?_
                      refine ta_float (i := 15) rfl (by kernel_rfl) (wants_none rfl) (yq_of (y_pickf (fe_t rfl) (fe_t rfl))) ?_
                      refine ta_done (by kernel_rfl) ?_
                      refine tx_then ?_
                      refine tr_condf (fe_t rfl) ?_
                      refine tr_skip ?_
                      refine tx_then ?_
                      refine tr_seq ?_
                      refine tr_seq ?_
                      refine tr_region ?_
                      refine tl_step rfl (oj_val (y_ldbA 2 Try.isAgg81 Try.sizeOf81 (fe_t rfl) rfl rfl rfl) ?_)
                      refine tl_step rfl (oj_callv Try.call64 fe_f (fel_cons (fe_t rfl) fel_nil) (fun w' hS => of_bel (Sketch.vright_yes A n c w' (Rd.below hr hS.below) hn (by omega) va)) ?_)
                      refine tl_step rfl (oj_val (y_not (fe_t rfl)) ?_)
                      refine tl_nil ?_
                      refine tx_then ?_
                      refine tr_condf (fe_t rfl) ?_
                      refine tr_skip ?_
                      refine tx_then ?_
                      refine tr_seq ?_
                      refine tr_region ?_
                      refine tl_step rfl (oj_val (y_move (fe_t rfl)) ?_)
                      refine tl_step rfl (oj_val (y_eq (fe_t rfl) fe_c) ?_)
                      refine tl_step rfl (oj_val (y_move (fe_t rfl)) ?_)
                      refine tl_splitp (d := 109) rfl (fun hq19 => ?_) (fun hq20 => ?_)
                      · try (exfalso; omega)
                        all_goals
                          refine tl_want rfl rfl rfl (oj_val (y_move (fe_t rfl)) ?_)
                          refine tl_want rfl rfl rfl (oj_val (y_ldbA 2 Try.isAgg81 Try.sizeOf81 (fe_t rfl) rfl rfl rfl) ?_)
                          refine tl_want rfl rfl rfl (oj_val (y_move (fe_t rfl)) ?_)
                          refine tl_want rfl rfl rfl (oj_callv Try.call66 fe_f (fel_cons (fe_t rfl) (fel_cons (fe_t rfl) fel_nil)) (fun w' hS => vcount_ok R A n c zs w' (Rd.below hr hS.below) hn va i0 i1) ?_)
                          refine tl_want rfl rfl rfl (oj_val (y_eq (fe_t rfl) (fe_t rfl)) ?_)
                          refine tl_step rfl (oj_val (y_pickt (fe_t rfl) (fe_t rfl)) ?_)
                          refine tl_step rfl (oj_val (y_assign (fe_t rfl)) ?_)
                          refine tl_nil ?_
                          refine tx_then ?_
                          refine tr_ret ?_
                          refine tx_ret (res1 Try.results8 (rok_t rfl)) (fun w' hS => ?_)
                          exact ⟨ret_bool (by first | rfl | (simp; done)), hS.pick [] _ rfl (by decide)⟩
                      · try (exfalso; omega)
                        all_goals
                          refine tl_skip rfl rfl rfl rfl ?_
                          refine tl_skip rfl rfl rfl rfl ?_
                          refine tl_skip rfl rfl rfl rfl ?_
                          refine tl_skip rfl rfl rfl rfl ?_
                          refine tl_skip rfl rfl rfl rfl ?_
                          refine tl_step rfl (oj_val (y_pickf (fe_t rfl) fe_c) ?_)
                          refine tl_step rfl (oj_val (y_assign (fe_t rfl)) ?_)
                          refine tl_nil ?_
                          refine tx_then ?_
                          refine tr_ret ?_
                          refine tx_ret (res1 Try.results8 (rok_t rfl)) (fun w' hS => ?_)
                          exact ⟨ret_bool (by first | rfl | (simp; done)), hS.pick [] _ rfl (by decide)⟩
      · try (exfalso; omega)
        all_goals
          refine tl_want rfl rfl rfl (oj_val (y_fieldAddr (td := 3) Try.underlying81 rfl rfl Try.sizeOf3 (o' := 1) rfl (fe_t rfl)) ?_)
          refine tl_want rfl rfl rfl (oj_val (y_ldb 2 Try.isAgg3 (fe_t rfl) rfl rfl) ?_)
          refine tl_want rfl rfl rfl (oj_val (y_lss (fe_t rfl) fe_c) ?_)
          refine tl_step rfl (oj_val (y_pickf (fe_t rfl) (fe_t rfl)) ?_)
          refine tl_step rfl (oj_val (y_move (fe_t rfl)) ?_)
          refine tl_splitp (d := 60) rfl (fun hq21 => ?_) (fun hq22 => ?_)
          · try (exfalso; omega)
            all_goals
              refine tl_skip rfl rfl rfl rfl ?_
              refine tl_skip rfl rfl rfl rfl ?_
              refine tl_skip rfl rfl rfl rfl ?_
              refine tl_step rfl (oj_val (y_pickt (fe_t rfl) fe_c) ?_)
              refine tl_nil ?_
              refine tx_then ?_
              refine tr_condt (fe_t rfl) ?_
              refine tr_seq ?_
              refine tr_region ?_
              refine tl_step rfl (oj_val (y_move (fe_t rfl)) ?_)
              refine tl_step rfl (oj_val (y_neq (fe_t rfl) fe_c) ?_)
              refine tl_step rfl (oj_val (y_move (fe_t rfl)) ?_)
              refine tl_splitp (d := 67) rfl (fun hq23 => ?_) (fun hq24 => ?_)
              · try (exfalso; omega)
                all_goals
                  refine tl_skip rfl rfl rfl rfl ?_
                  refine tl_skip rfl rfl rfl rfl ?_
                  refine tl_step rfl (oj_val (y_pickt (fe_t rfl) fe_c) ?_)
                  refine tl_nil ?_
                  refine tx_then ?_
                  exfalso; omega
              · try (exfalso; omega)
                all_goals
                  refine tl_want rfl rfl rfl (oj_val (y_move (fe_t rfl)) ?_)
                  refine tl_want rfl rfl rfl (oj_val (y_neq (fe_t rfl) fe_c) ?_)
                  refine tl_step rfl (oj_val (y_pickf (fe_t rfl) (fe_t rfl)) ?_)
                  refine tl_nil ?_
                  refine tx_then ?_
                  refine tr_condp (fe_t rfl) (fun hq25 => ?_) (fun hq26 => ?_)
                  · exfalso; omega
                  · try (exfalso; omega)
                    all_goals
                      refine tr_skip ?_
                      refine tx_then ?_
                      refine tr_seq ?_
                      refine tr_seq ?_
                      refine tr_draw (sel _ [0, 1, 2]) (fun w h => h.sel _ rfl (by decide)) rfl ?_
                      refine ta_float (i := 0) rfl (by kernel_rfl) (wants_none rfl) (yq_of (y_ldbA 2 Try.isAgg81 Try.sizeOf81 (fe_t rfl) rfl rfl rfl)) ?_
                      refine ta_float (i := 1) rfl (by kernel_rfl) (wants_none rfl) (yq_call Try.call63 fe_f (fel_cons (fe_t rfl) fel_nil) (fun w' hS => of_bel (Sketch.right_yes A n c w' (Rd.below hr hS.below) hn (by omega) va))) ?_
                      refine ta_float (i := 2) rfl (by kernel_rfl) (wants_none rfl) (yq_of (y_ldbA 2 Try.isAgg81 Try.sizeOf81 (fe_t rfl) rfl rfl rfl)) ?_
                      refine ta_float (i := 3) rfl (by kernel_rfl) (wants_none rfl) (yq_call Try.call64 fe_f (fel_cons (fe_t rfl) fel_nil) (fun w' hS => of_bel (Sketch.vright_yes A n c w' (Rd.below hr hS.below) hn (by omega) va))) ?_
                      refine ta_float (i := 4) rfl (by kernel_rfl) (wants_none rfl) (yq_of (y_nebb Try.underlying4 (fe_t rfl) (fe_t rfl))) ?_
                      refine ta_float (i := 5) rfl (by kernel_rfl) (wants_none rfl) (yq_of (y_move (fe_t rfl))) ?_
                      refine ta_float (i := 6) rfl (by kernel_rfl) (wants_t rfl rfl rfl) (yq_of (y_move (fe_t rfl))) ?_
                      refine ta_float (i := 7) rfl (by kernel_rfl) (wants_t rfl rfl rfl) (yq_of (y_move (fe_t rfl))) ?_
                      refine ta_float (i := 8) rfl (by kernel_rfl) (wants_t rfl rfl rfl) (yq_of (y_neq (fe_t rfl) (fe_t rfl))) ?_
                      refine ta_float (i := 9) rfl (by kernel_rfl) (wants_none rfl) (yq_of (y_pickf (fe_t rfl) (fe_t rfl))) ?_
                      refine ta_float (i := 10) rfl (by kernel_rfl) (wants_none rfl) (yq_of (y_move (fe_t rfl))) ?_
                      refine ta_splitp (d := 92) rfl (fun hq27 => ?_) (fun hq28 => ?_)
                      · try (exfalso; omega)
                        all_goals
                          refine ta_skip (i := 11) rfl (by kernel_rfl) (wants_f rfl rfl rfl rfl) ?_
                          refine ta_skip (i := 12) rfl (by kernel_rfl) (wants_f rfl rfl rfl rfl) ?_
                          refine ta_skip (i := 13) rfl (by kernel_rfl) (wants_f rfl rfl rfl rfl) ?_
                          refine ta_skip (i := 14) rfl (by kernel_rfl) (wants_f rfl rfl rfl rfl) ?_
                          refine ta_float (i := 15) rfl (by kernel_rfl) (wants_none rfl) (yq_of (y_pickt (fe_t rfl) fe_c)) ?_
                          refine ta_done (by kernel_rfl) ?_
                          refine tx_then ?_
                          refine tr_condt (fe_t rfl) ?_
                          refine tr_seq ?_
                          refine tr_region ?_
                          refine tl_step rfl (oj_val (y_assign fe_c) ?_)
                          refine tl_nil ?_
                          refine tx_then ?_
                          refine tr_ret ?_
                          refine tx_then_ret ?_
                          refine tx_ret (res1 Try.results8 (rok_t rfl)) (fun w' hS => ?_)
                          exact ⟨ret_bool (by first | rfl | (simp; done)), hS.pick [] _ rfl (by decide)⟩
                      · try (exfalso; omega)
                        all_goals
                          refine ta_float (i := 11) rfl (by kernel_rfl) (wants_t rfl rfl rfl) (yq_of (y_ldbA 1 Try.isAgg81 Try.sizeOf81 (fe_t rfl) rfl rfl rfl)) ?_
                          refine ta_float (i := 12) rfl (by kernel_rfl) (wants_t rfl rfl rfl) (yq_of (y_ldbA 0 Try.isAgg81 Try.sizeOf81 (fe_t rfl) rfl rfl rfl)) ?_
                          refine ta_float (i := 13) rfl (by kernel_rfl) (wants_t rfl rfl rfl) (yq_call Try.call65 fe_f (fel_cons (fe_t rfl) (fel_cons (fe_t rfl) fel_nil)) (fun w' hS => of_bel (Sketch.same_any 0 0 none none 0 0 0 [] w' Rd.nil Rd.nil rfl (by omega)))) ?_
                          refine ta_float (i := 14) rfl (by kernel_rfl) (wants_t rfl rfl rfl) (yq_of (y_not (fe_t rfl))) ?_
                          refine ta_float (i := 15) rfl (by kernel_rfl) (wants_none rfl) (yq_of (y_pickf (fe_t rfl) (fe_t rfl))) ?_
                          refine ta_done (by kernel_rfl) ?_
                          refine tx_then ?_
                          refine tr_condf (fe_t rfl) ?_
                          refine tr_skip ?_
                          refine tx_then ?_
                          refine tr_seq ?_
                          refine tr_seq ?_
                          refine tr_region ?_
                          refine tl_step rfl (oj_val (y_ldbA 2 Try.isAgg81 Try.sizeOf81 (fe_t rfl) rfl rfl rfl) ?_)
                          refine tl_step rfl (oj_callv Try.call64 fe_f (fel_cons (fe_t rfl) fel_nil) (fun w' hS => of_bel (Sketch.vright_yes A n c w' (Rd.below hr hS.below) hn (by omega) va)) ?_)
                          refine tl_step rfl (oj_val (y_not (fe_t rfl)) ?_)
                          refine tl_nil ?_
                          refine tx_then ?_
                          refine tr_condf (fe_t rfl) ?_
                          refine tr_skip ?_
                          refine tx_then ?_
                          refine tr_seq ?_
                          refine tr_region ?_
                          refine tl_step rfl (oj_val (y_move (fe_t rfl)) ?_)
                          refine tl_step rfl (oj_val (y_eq (fe_t rfl) fe_c) ?_)
                          refine tl_step rfl (oj_val (y_move (fe_t rfl)) ?_)
                          refine tl_splitp (d := 109) rfl (fun hq29 => ?_) (fun hq30 => ?_)
                          · try (exfalso; omega)
                            all_goals
                              refine tl_want rfl rfl rfl (oj_val (y_move (fe_t rfl)) ?_)
                              refine tl_want rfl rfl rfl (oj_val (y_ldbA 2 Try.isAgg81 Try.sizeOf81 (fe_t rfl) rfl rfl rfl) ?_)
                              refine tl_want rfl rfl rfl (oj_val (y_move (fe_t rfl)) ?_)
                              refine tl_want rfl rfl rfl (oj_callv Try.call66 fe_f (fel_cons (fe_t rfl) (fel_cons (fe_t rfl) fel_nil)) (fun w' hS => vcount_ok R A n c zs w' (Rd.below hr hS.below) hn va i0 i1) ?_)
                              refine tl_want rfl rfl rfl (oj_val (y_eq (fe_t rfl) (fe_t rfl)) ?_)
                              refine tl_step rfl (oj_val (y_pickt (fe_t rfl) (fe_t rfl)) ?_)
                              refine tl_step rfl (oj_val (y_assign (fe_t rfl)) ?_)
                              refine tl_nil ?_
                              refine tx_then ?_
                              refine tr_ret ?_
                              refine tx_ret (res1 Try.results8 (rok_t rfl)) (fun w' hS => ?_)
                              exact ⟨ret_bool (by first | rfl | (simp; done)), hS.pick [] _ rfl (by decide)⟩
                          · try (exfalso; omega)
                            all_goals
                              refine tl_skip rfl rfl rfl rfl ?_
                              refine tl_skip rfl rfl rfl rfl ?_
                              refine tl_skip rfl rfl rfl rfl ?_
                              refine tl_skip rfl rfl rfl rfl ?_
                              refine tl_skip rfl rfl rfl rfl ?_
                              refine tl_step rfl (oj_val (y_pickf (fe_t rfl) fe_c) ?_)
                              refine tl_step rfl (oj_val (y_assign (fe_t rfl)) ?_)
                              refine tl_nil ?_
                              refine tx_then ?_
                              refine tr_ret ?_
                              refine tx_ret (res1 Try.results8 (rok_t rfl)) (fun w' hS => ?_)
                              exact ⟨ret_bool (by first | rfl | (simp; done)), hS.pick [] _ rfl (by decide)⟩
          · try (exfalso; omega)
            all_goals
              refine tl_want rfl rfl rfl (oj_val (y_fieldAddr (td := 3) Try.underlying81 rfl rfl Try.sizeOf3 (o' := 1) rfl (fe_t rfl)) ?_)
              refine tl_want rfl rfl rfl (oj_val (y_ldb 2 Try.isAgg3 (fe_t rfl) rfl rfl) ?_)
              refine tl_want rfl rfl rfl (oj_val (y_gtr (fe_t rfl) fe_c) ?_)
              refine tl_step rfl (oj_val (y_pickf (fe_t rfl) (fe_t rfl)) ?_)
              refine tl_nil ?_
              refine tx_then ?_
              refine tr_condp (fe_t rfl) (fun hq31 => ?_) (fun hq32 => ?_)
              · try (exfalso; omega)
                all_goals
                  refine tr_seq ?_
                  refine tr_region ?_
                  refine tl_step rfl (oj_val (y_move (fe_t rfl)) ?_)
                  refine tl_step rfl (oj_val (y_neq (fe_t rfl) fe_c) ?_)
                  refine tl_step rfl (oj_val (y_move (fe_t rfl)) ?_)
                  refine tl_splitp (d := 67) rfl (fun hq33 => ?_) (fun hq34 => ?_)
                  · try (exfalso; omega)
                    all_goals
                      refine tl_skip rfl rfl rfl rfl ?_
                      refine tl_skip rfl rfl rfl rfl ?_
                      refine tl_step rfl (oj_val (y_pickt (fe_t rfl) fe_c) ?_)
                      refine tl_nil ?_
                      refine tx_then ?_
                      exfalso; omega
                  · try (exfalso; omega)
                    all_goals
                      refine tl_want rfl rfl rfl (oj_val (y_move (fe_t rfl)) ?_)
                      refine tl_want rfl rfl rfl (oj_val (y_neq (fe_t rfl) fe_c) ?_)
                      refine tl_step rfl (oj_val (y_pickf (fe_t rfl) (fe_t rfl)) ?_)
                      refine tl_nil ?_
                      refine tx_then ?_
                      refine tr_condp (fe_t rfl) (fun hq35 => ?_) (fun hq36 => ?_)
                      · exfalso; omega
                      · try (exfalso; omega)
                        all_goals
                          refine tr_skip ?_
                          refine tx_then ?_
                          refine tr_seq ?_
                          refine tr_seq ?_
                          refine tr_draw (sel _ [0, 1, 2]) (fun w h => h.sel _ rfl (by decide)) rfl ?_
                          refine ta_float (i := 0) rfl (by kernel_rfl) (wants_none rfl) (yq_of (y_ldbA 2 Try.isAgg81 Try.sizeOf81 (fe_t rfl) rfl rfl rfl)) ?_
                          refine ta_float (i := 1) rfl (by kernel_rfl) (wants_none rfl) (yq_call Try.call63 fe_f (fel_cons (fe_t rfl) fel_nil) (fun w' hS => of_bel (Sketch.right_yes A n c w' (Rd.below hr hS.below) hn (by omega) va))) ?_
                          refine ta_float (i := 2) rfl (by kernel_rfl) (wants_none rfl) (yq_of (y_ldbA 2 Try.isAgg81 Try.sizeOf81 (fe_t rfl) rfl rfl rfl)) ?_
                          refine ta_float (i := 3) rfl (by kernel_rfl) (wants_none rfl) (yq_call Try.call64 fe_f (fel_cons (fe_t rfl) fel_nil) (fun w' hS => of_bel (Sketch.vright_yes A n c w' (Rd.below hr hS.below) hn (by omega) va))) ?_
                          refine ta_float (i := 4) rfl (by kernel_rfl) (wants_none rfl) (yq_of (y_nebb Try.underlying4 (fe_t rfl) (fe_t rfl))) ?_
                          refine ta_float (i := 5) rfl (by kernel_rfl) (wants_none rfl) (yq_of (y_move (fe_t rfl))) ?_
                          refine ta_float (i := 6) rfl (by kernel_rfl) (wants_t rfl rfl rfl) (yq_of (y_move (fe_t rfl))) ?_
                          refine ta_float (i := 7) rfl (by kernel_rfl) (wants_t rfl rfl rfl) (yq_of (y_move (fe_t rfl))) ?_
                          refine ta_float (i := 8) rfl (by kernel_rfl) (wants_t rfl rfl rfl) (yq_of (y_neq (fe_t rfl) (fe_t rfl))) ?_
                          refine ta_float (i := 9) rfl (by kernel_rfl) (wants_none rfl) (yq_of (y_pickf (fe_t rfl) (fe_t rfl))) ?_
                          refine ta_float (i := 10) rfl (by kernel_rfl) (wants_none rfl) (yq_of (y_move (fe_t rfl))) ?_
                          refine ta_splitp (d := 92) rfl (fun hq37 => ?_) (fun hq38 => ?_)
                          · try (exfalso; omega)
                            all_goals
                              refine ta_skip (i := 11) rfl (by kernel_rfl) (wants_f rfl rfl rfl rfl) ?_
                              refine ta_skip (i := 12) rfl (by kernel_rfl) (wants_f rfl rfl rfl rfl) ?_
                              refine ta_skip (i := 13) rfl (by kernel_rfl) (wants_f rfl rfl rfl rfl) ?_
                              refine ta_skip (i := 14) rfl (by kernel_rfl) (wants_f rfl rfl rfl rfl) ?_
                              refine ta_float (i := 15) rfl (by kernel_rfl) (wants_none rfl) (yq_of (y_pickt (fe_t rfl) fe_c)) ?_
                              refine ta_done (by kernel_rfl) ?_
                              refine tx_then ?_
                              refine tr_condt (fe_t rfl) ?_
                              refine tr_seq ?_
                              refine tr_region ?_
                              refine tl_step rfl (oj_val (y_assign fe_c) ?_)
                              refine tl_nil ?_
                              refine tx_then ?_
                              refine tr_ret ?_
                              refine tx_then_ret ?_
                              refine tx_ret (res1 Try.results8 (rok_t rfl)) (fun w' hS => ?_)
                              exact ⟨ret_bool (by first | rfl | (simp; done)), hS.pick [] _ rfl (by decide)⟩
                          · try (exfalso; omega)
                            all_goals
                              refine ta_float (i := 11) rfl (by kernel_rfl) (wants_t rfl rfl rfl) (yq_of (y_ldbA 1 Try.isAgg81 Try.sizeOf81 (fe_t rfl) rfl rfl rfl)) ?_
                              refine ta_float (i := 12) rfl (by kernel_rfl) (wants_t rfl rfl rfl) (yq_of (y_ldbA 0 Try.isAgg81 Try.sizeOf81 (fe_t rfl) rfl rfl rfl)) ?_
                              refine ta_float (i := 13) rfl (by kernel_rfl) (wants_t rfl rfl rfl) (yq_call Try.call65 fe_f (fel_cons (fe_t rfl) (fel_cons (fe_t rfl) fel_nil)) (fun w' hS => of_bel (Sketch.same_any 0 0 none none 0 0 0 [] w' Rd.nil Rd.nil rfl (by omega)))) ?_
                              refine ta_float (i := 14) rfl (by kernel_rfl) (wants_t rfl rfl rfl) (yq_of (y_not (fe_t rfl))) ?_
                              refine ta_float (i := 15) rfl (by kernel_rfl) (wants_none rfl) (yq_of (y_pickf (fe_t rfl) (fe_t rfl))) ?_
                              refine ta_done (by kernel_rfl) ?_
                              refine tx_then ?_
                              refine tr_condf (fe_t rfl) ?_
                              refine tr_skip ?_
                              refine tx_then ?_
                              refine tr_seq ?_
                              refine tr_seq ?_
                              refine tr_region ?_
                              refine tl_step rfl (oj_val (y_ldbA 2 Try.isAgg81 Try.sizeOf81 (fe_t rfl) rfl rfl rfl) ?_)
                              refine tl_step rfl (oj_callv Try.call64 fe_f (fel_cons (fe_t rfl) fel_nil) (fun w' hS => of_bel (Sketch.vright_yes A n c w' (Rd.below hr hS.below) hn (by omega) va)) ?_)
                              refine tl_step rfl (oj_val (y_not (fe_t rfl)) ?_)
                              refine tl_nil ?_
                              refine tx_then ?_
                              refine tr_condf (fe_t rfl) ?_
                              refine tr_skip ?_
                              refine tx_then ?_
                              refine tr_seq ?_
                              refine tr_region ?_
                              refine tl_step rfl (oj_val (y_move (fe_t rfl)) ?_)
                              refine tl_step rfl (oj_val (y_eq (fe_t rfl) fe_c) ?_)
                              refine tl_step rfl (oj_val (y_move (fe_t rfl)) ?_)
                              refine tl_splitp (d := 109) rfl (fun hq39 => ?_) (fun hq40 => ?_)
                              · try (exfalso; omega)
                                all_goals
                                  refine tl_want rfl rfl rfl (oj_val (y_move (fe_t rfl)) ?_)
                                  refine tl_want rfl rfl rfl (oj_val (y_ldbA 2 Try.isAgg81 Try.sizeOf81 (fe_t rfl) rfl rfl rfl) ?_)
                                  refine tl_want rfl rfl rfl (oj_val (y_move (fe_t rfl)) ?_)
                                  refine tl_want rfl rfl rfl (oj_callv Try.call66 fe_f (fel_cons (fe_t rfl) (fel_cons (fe_t rfl) fel_nil)) (fun w' hS => vcount_ok R A n c zs w' (Rd.below hr hS.below) hn va i0 i1) ?_)
                                  refine tl_want rfl rfl rfl (oj_val (y_eq (fe_t rfl) (fe_t rfl)) ?_)
                                  refine tl_step rfl (oj_val (y_pickt (fe_t rfl) (fe_t rfl)) ?_)
                                  refine tl_step rfl (oj_val (y_assign (fe_t rfl)) ?_)
                                  refine tl_nil ?_
                                  refine tx_then ?_
                                  refine tr_ret ?_
                                  refine tx_ret (res1 Try.results8 (rok_t rfl)) (fun w' hS => ?_)
                                  exact ⟨ret_bool (by first | rfl | (simp; done)), hS.pick [] _ rfl (by decide)⟩
                              · try (exfalso; omega)
                                all_goals
                                  refine tl_skip rfl rfl rfl rfl ?_
                                  refine tl_skip rfl rfl rfl rfl ?_
                                  refine tl_skip rfl rfl rfl rfl ?_
                                  refine tl_skip rfl rfl rfl rfl ?_
                                  refine tl_skip rfl rfl rfl rfl ?_
                                  refine tl_step rfl (oj_val (y_pickf (fe_t rfl) fe_c) ?_)
                                  refine tl_step rfl (oj_val (y_assign (fe_t rfl)) ?_)
                                  refine tl_nil ?_
                                  refine tx_then ?_
                                  refine tr_ret ?_
                                  refine tx_ret (res1 Try.results8 (rok_t rfl)) (fun w' hS => ?_)
                                  exact ⟨ret_bool (by first | rfl | (simp; done)), hS.pick [] _ rfl (by decide)⟩
              · exfalso; omega

set_option maxRecDepth 100000 in
set_option maxHeartbeats 4000000 in
theorem law_x_ok {width row id nn : Int} {cf : Bool} (R : Nat) (A : Option Addr) (n c : Nat) (zs : List Int) (w : World) (hr : Rd w A (zs.map (.int .i64))) (hn : zs.length = n) (va : Sketch.vright (R : Int) width zs = true) (i0 : 0 ≤ id) (i1 : id < 18446744073709551616) (hpk : row < 0 ∨ 7 < row ∨ width < 1 ∨ 64 < width) (hn0 : 0 ≤ nn) (hn1 : nn ≤ 1073741824) (hf : bigs zs (nw cf (least zs width id R) nn) width id R = false) :
    Calls Try.prog 8 #[.agg #[(.int .i64 ((R : Int))), (.int .i64 width), .slice A n c], (.int .i64 row), .int .u64 id, (.int .i64 nn), .bool cf] w fun e w' => e = .returned (.bool true) ∧ St w w' [] := by
  obtain ⟨⟨d0, d1⟩, ⟨w0, w1⟩, hln⟩ := vright_facts va
  have hR8 : (R : Int) * width ≤ 8 * 64 := Int.mul_le_mul (by omega) w1 (by omega) (by omega)
  have hpos := Sketch.dims_prod (Sketch.dims_iff.2 ⟨⟨d0, d1⟩, w0, w1⟩)
  refine calls_tr Try.func8 Try.ntmps8 rfl rfl (St.refl _) ?_
  refine tr_seq ?_
  refine tr_region ?_
  refine tl_step rfl (oj_box (fe_t rfl) (fun sb => ?_))
  refine tl_step rfl (oj_val (y_assign fe_c) ?_)
  refine tl_nil ?_
  refine tx_then ?_
  refine tr_seq ?_
  refine tr_region ?_
  refine tl_step rfl (oj_val (y_move (fe_t rfl)) ?_)
  refine tl_step rfl (oj_val (y_fieldAddr (td := 3) Try.underlying81 rfl rfl Try.sizeOf3 (o' := 1) rfl (fe_t rfl)) ?_)
  refine tl_step rfl (oj_val (y_ldb 0 Try.isAgg3 (fe_t rfl) rfl rfl) ?_)
  refine tl_step rfl (oj_val (y_move (fe_t rfl)) ?_)
  refine tl_step rfl (oj_callv Try.call58 fe_f (fel_cons (fe_t rfl) (fel_cons (fe_t rfl) (fel_cons (fe_t rfl) fel_nil))) (fun w' hS => place_bad _ _ _ w' hpk) ?_)
  refine tl_step rfl (oj_val (y_move (fe_t rfl)) ?_)
  refine tl_step rfl (oj_val (y_extract (fe_t rfl) rfl) ?_)
  refine tl_step rfl (oj_val (y_extract (fe_t rfl) rfl) ?_)
  refine tl_step rfl (oj_val (y_assign (fe_t rfl)) ?_)
  refine tl_step rfl (oj_val (y_assign (fe_t rfl)) ?_)
  refine tl_nil ?_
  refine tx_then ?_
  refine tr_seq ?_
  refine tr_region ?_
  refine tl_step rfl (oj_val (y_ldbA 0 Try.isAgg81 Try.sizeOf81 (fe_t rfl) rfl rfl rfl) ?_)
  refine tl_step rfl (oj_val (y_move (fe_t rfl)) ?_)
  refine tl_step rfl (oj_callv Try.call59 fe_f (fel_cons (fe_t rfl) (fel_cons (fe_t rfl) fel_nil)) (fun w' hS => count_ok R A n c zs w' (Rd.below hr hS.below) hn va i0 i1) ?_)
  refine tl_step rfl (oj_val (y_move (fe_t rfl)) ?_)
  refine tl_step rfl (oj_val (y_extract (fe_t rfl) rfl) ?_)
  refine tl_step rfl (oj_val (y_extract (fe_t rfl) rfl) ?_)
  refine tl_step rfl (oj_val (y_assign (fe_t rfl)) ?_)
  refine tl_step rfl (oj_val (y_assign (fe_t rfl)) ?_)
  refine tl_nil ?_
  refine tx_then ?_
  refine tr_seq ?_
  refine tr_region ?_
  refine tl_step rfl (oj_val (y_ldbA 0 Try.isAgg81 Try.sizeOf81 (fe_t rfl) rfl rfl rfl) ?_)
  refine tl_step rfl (oj_val (y_move (fe_t rfl)) ?_)
  refine tl_step rfl (oj_val (y_move (fe_t rfl)) ?_)
  refine tl_step rfl (oj_val (y_move (fe_t rfl)) ?_)
  refine tl_step rfl (oj_call Try.call60 fe_f (fel_cons (fe_t rfl) (fel_cons (fe_t rfl) (fel_cons (fe_t rfl) (fel_cons (fe_t rfl) fel_nil)))) (fun w' hS => Aadd_ok R A n c zs w' (Rd.below hr hS.below) hn va i0 i1 hn0 hn1 hf) (fun Aq Ah => ?_))
  refine tl_step rfl (oj_val (y_move (fe_t rfl)) ?_)
  refine tl_step rfl (oj_val (y_extract (fe_t rfl) rfl) ?_)
  refine tl_step rfl (oj_val (y_extract (fe_t rfl) rfl) ?_)
  refine tl_step rfl (oj_alloc Try.zeroValue81 (fun ab => ?_))
  refine tl_step rfl (oj_storeW 0 Try.sizeOf81 (fe_t rfl) (fe_t rfl) rfl rfl rfl rfl rfl (?_))
  refine tl_step rfl (oj_val (y_assign (fe_t rfl)) ?_)
  refine tl_nil ?_
  refine tx_then ?_
  refine tr_seq ?_
  refine tr_region ?_
  refine tl_step rfl (oj_val (y_ldbA 2 Try.isAgg81 Try.sizeOf81 (fe_t rfl) rfl rfl rfl) ?_)
  refine tl_step rfl (oj_val (y_move (fe_t rfl)) ?_)
  refine tl_step rfl (oj_val (y_move (fe_t rfl)) ?_)
  refine tl_step rfl (oj_val (y_move (fe_t rfl)) ?_)
  refine tl_step rfl (oj_call Try.call61 fe_f (fel_cons (fe_t rfl) (fel_cons (fe_t rfl) (fel_cons (fe_t rfl) (fel_cons (fe_t rfl) fel_nil)))) (fun w' hS => Vadd_ok R A n c zs w' (Rd.below hr hS.below) hn va i0 i1 hn0 hn1 hf) (fun Vq Vh => ?_))
  refine tl_step rfl (oj_val (y_move (fe_t rfl)) ?_)
  refine tl_step rfl (oj_val (y_extract (fe_t rfl) rfl) ?_)
  refine tl_step rfl (oj_val (y_extract (fe_t rfl) rfl) ?_)
  refine tl_step rfl (oj_alloc Try.zeroValue81 (fun bb => ?_))
  refine tl_step rfl (oj_storeW 0 Try.sizeOf81 (fe_t rfl) (fe_t rfl) rfl rfl rfl rfl rfl (?_))
  refine tl_step rfl (oj_val (y_assign (fe_t rfl)) ?_)
  refine tl_nil ?_
  refine tx_then ?_
  refine tr_seq ?_
  refine tr_seq ?_
  refine tr_region ?_
  refine tl_step rfl (oj_val (y_move (fe_t rfl)) ?_)
  refine tl_step rfl (oj_val (y_lss (fe_t rfl) fe_c) ?_)
  refine tl_step rfl (oj_val (y_move (fe_t rfl)) ?_)
  refine tl_splitp (d := 51) rfl (fun hq1 => ?_) (fun hq2 => ?_)
  · try (exfalso; omega)
    all_goals
      refine tl_skip rfl rfl rfl rfl ?_
      refine tl_skip rfl rfl rfl rfl ?_
      refine tl_step rfl (oj_val (y_pickt (fe_t rfl) fe_c) ?_)
      refine tl_step rfl (oj_val (y_move (fe_t rfl)) ?_)
      refine tl_skip rfl rfl rfl rfl ?_
      refine tl_skip rfl rfl rfl rfl ?_
      refine tl_skip rfl rfl rfl rfl ?_
      refine tl_step rfl (oj_val (y_pickt (fe_t rfl) fe_c) ?_)
      refine tl_step rfl (oj_val (y_move (fe_t rfl)) ?_)
      refine tl_skip rfl rfl rfl rfl ?_
      refine tl_skip rfl rfl rfl rfl ?_
      refine tl_skip rfl rfl rfl rfl ?_
      refine tl_step rfl (oj_val (y_pickt (fe_t rfl) fe_c) ?_)
      refine tl_nil ?_
      refine tx_then ?_
      refine tr_condt (fe_t rfl) ?_
      refine tr_seq ?_
      refine tr_region ?_
      refine tl_step rfl (oj_val (y_move (fe_t rfl)) ?_)
      refine tl_step rfl (oj_val (y_neq (fe_t rfl) fe_c) ?_)
      refine tl_step rfl (oj_val (y_move (fe_t rfl)) ?_)
      refine tl_splitp (d := 67) rfl (fun hq3 => ?_) (fun hq4 => ?_)
      · try (exfalso; omega)
        all_goals
          refine tl_skip rfl rfl rfl rfl ?_
          refine tl_skip rfl rfl rfl rfl ?_
          refine tl_step rfl (oj_val (y_pickt (fe_t rfl) fe_c) ?_)
          refine tl_nil ?_
          refine tx_then ?_
          exfalso; omega
      · try (exfalso; omega)
        all_goals
          refine tl_want rfl rfl rfl (oj_val (y_move (fe_t rfl)) ?_)
          refine tl_want rfl rfl rfl (oj_val (y_neq (fe_t rfl) fe_c) ?_)
          refine tl_step rfl (oj_val (y_pickf (fe_t rfl) (fe_t rfl)) ?_)
          refine tl_nil ?_
          refine tx_then ?_
          refine tr_condp (fe_t rfl) (fun hq5 => ?_) (fun hq6 => ?_)
          · exfalso; omega
          · try (exfalso; omega)
            all_goals
              refine tr_skip ?_
              refine tx_then ?_
              refine tr_seq ?_
              refine tr_seq ?_
              refine tr_draw (sel _ [0, 1, 2, 3, 4]) (fun w h => h.sel _ rfl (by decide)) rfl ?_
              refine ta_float (i := 0) rfl (by kernel_rfl) (wants_none rfl) (yq_of (y_ldbA 4 Try.isAgg81 Try.sizeOf81 (fe_t rfl) rfl rfl rfl)) ?_
              refine ta_float (i := 1) rfl (by kernel_rfl) (wants_none rfl) (yq_call Try.call63 fe_f (fel_cons (fe_t rfl) fel_nil) (fun w' hS => of_bel (Sketch.right_yes A n c w' (Rd.below hr hS.below) hn (by omega) va))) ?_
              refine ta_float (i := 2) rfl (by kernel_rfl) (wants_none rfl) (yq_of (y_ldbA 4 Try.isAgg81 Try.sizeOf81 (fe_t rfl) rfl rfl rfl)) ?_
              refine ta_float (i := 3) rfl (by kernel_rfl) (wants_none rfl) (yq_call Try.call64 fe_f (fel_cons (fe_t rfl) fel_nil) (fun w' hS => of_bel (Sketch.vright_yes A n c w' (Rd.below hr hS.below) hn (by omega) va))) ?_
              refine ta_float (i := 4) rfl (by kernel_rfl) (wants_none rfl) (yq_of (y_nebb Try.underlying4 (fe_t rfl) (fe_t rfl))) ?_
              refine ta_float (i := 5) rfl (by kernel_rfl) (wants_none rfl) (yq_of (y_move (fe_t rfl))) ?_
              refine ta_float (i := 6) rfl (by kernel_rfl) (wants_t rfl rfl rfl) (yq_of (y_move (fe_t rfl))) ?_
              refine ta_float (i := 7) rfl (by kernel_rfl) (wants_t rfl rfl rfl) (yq_of (y_move (fe_t rfl))) ?_
              refine ta_float (i := 8) rfl (by kernel_rfl) (wants_t rfl rfl rfl) (yq_of (y_neq (fe_t rfl) (fe_t rfl))) ?_
              refine ta_float (i := 9) rfl (by kernel_rfl) (wants_none rfl) (yq_of (y_pickf (fe_t rfl) (fe_t rfl))) ?_
              refine ta_float (i := 10) rfl (by kernel_rfl) (wants_none rfl) (yq_of (y_move (fe_t rfl))) ?_
              refine ta_splitp (d := 92) rfl (fun hq7 => ?_) (fun hq8 => ?_)
              · try (exfalso; omega)
                all_goals
                  refine ta_skip (i := 11) rfl (by kernel_rfl) (wants_f rfl rfl rfl rfl) ?_
                  refine ta_skip (i := 12) rfl (by kernel_rfl) (wants_f rfl rfl rfl rfl) ?_
                  refine ta_skip (i := 13) rfl (by kernel_rfl) (wants_f rfl rfl rfl rfl) ?_
                  refine ta_skip (i := 14) rfl (by kernel_rfl) (wants_f rfl rfl rfl rfl) ?_
                  refine ta_float (i := 15) rfl (by kernel_rfl) (wants_none rfl) (yq_of (y_pickt (fe_t rfl) fe_c)) ?_
                  refine ta_done (by kernel_rfl) ?_
                  refine tx_then ?_
                  refine tr_condt (fe_t rfl) ?_
                  refine tr_seq ?_
                  refine tr_region ?_
                  refine tl_step rfl (oj_val (y_assign fe_c) ?_)
                  refine tl_nil ?_
                  refine tx_then ?_
                  refine tr_ret ?_
                  refine tx_then_ret ?_
                  refine tx_ret (res1 Try.results8 (rok_t rfl)) (fun w' hS => ?_)
                  exact ⟨ret_bool (by first | rfl | (simp; done)), hS.pick [] _ rfl (by decide)⟩
              · try (exfalso; omega)
                all_goals
                  refine ta_float (i := 11) rfl (by kernel_rfl) (wants_t rfl rfl rfl) (yq_of (y_ldbA 2 Try.isAgg81 Try.sizeOf81 (fe_t rfl) rfl rfl rfl)) ?_
                  refine ta_float (i := 12) rfl (by kernel_rfl) (wants_t rfl rfl rfl) (yq_of (y_ldbA 0 Try.isAgg81 Try.sizeOf81 (fe_t rfl) rfl rfl rfl)) ?_
                  refine ta_float (i := 13) rfl (by kernel_rfl) (wants_t rfl rfl rfl) (yq_call Try.call65 fe_f (fel_cons (fe_t rfl) (fel_cons (fe_t rfl) fel_nil)) (fun w' hS => same_vs Ah Vh w' (hS.holds 3 _ rfl) (hS.holds 1 _ rfl) (by omega) (by rw [upd_len]; omega))) ?_
                  refine ta_float (i := 14) rfl (by kernel_rfl) (wants_t rfl rfl rfl) (yq_of (y_not (fe_t rfl))) ?_
                  refine ta_float (i := 15) rfl (by kernel_rfl) (wants_none rfl) (yq_of (y_pickf (fe_t rfl) (fe_t rfl))) ?_
                  refine ta_done (by kernel_rfl) ?_
                  refine tx_then ?_
                  refine tr_condf (fe_t rfl) ?_
                  refine tr_skip ?_
                  refine tx_then ?_
                  refine tr_seq ?_
                  refine tr_seq ?_
                  refine tr_region ?_
                  refine tl_step rfl (oj_val (y_ldbA 4 Try.isAgg81 Try.sizeOf81 (fe_t rfl) rfl rfl rfl) ?_)
                  refine tl_step rfl (oj_callv Try.call64 fe_f (fel_cons (fe_t rfl) fel_nil) (fun w' hS => of_bel (Sketch.vright_yes A n c w' (Rd.below hr hS.below) hn (by omega) va)) ?_)
                  refine tl_step rfl (oj_val (y_not (fe_t rfl)) ?_)
                  refine tl_nil ?_
                  refine tx_then ?_
                  refine tr_condf (fe_t rfl) ?_
                  refine tr_skip ?_
                  refine tx_then ?_
                  refine tr_seq ?_
                  refine tr_region ?_
                  refine tl_step rfl (oj_val (y_move (fe_t rfl)) ?_)
                  refine tl_step rfl (oj_val (y_eq (fe_t rfl) fe_c) ?_)
                  refine tl_step rfl (oj_val (y_move (fe_t rfl)) ?_)
                  refine tl_splitp (d := 109) rfl (fun hq9 => ?_) (fun hq10 => ?_)
                  · try (exfalso; omega)
                    all_goals
                      refine tl_want rfl rfl rfl (oj_val (y_move (fe_t rfl)) ?_)
                      refine tl_want rfl rfl rfl (oj_val (y_ldbA 4 Try.isAgg81 Try.sizeOf81 (fe_t rfl) rfl rfl rfl) ?_)
                      refine tl_want rfl rfl rfl (oj_val (y_move (fe_t rfl)) ?_)
                      refine tl_want rfl rfl rfl (oj_callv Try.call66 fe_f (fel_cons (fe_t rfl) (fel_cons (fe_t rfl) fel_nil)) (fun w' hS => vcount_ok R A n c zs w' (Rd.below hr hS.below) hn va i0 i1) ?_)
                      refine tl_want rfl rfl rfl (oj_val (y_eq (fe_t rfl) (fe_t rfl)) ?_)
                      refine tl_step rfl (oj_val (y_pickt (fe_t rfl) (fe_t rfl)) ?_)
                      refine tl_step rfl (oj_val (y_assign (fe_t rfl)) ?_)
                      refine tl_nil ?_
                      refine tx_then ?_
                      refine tr_ret ?_
                      refine tx_ret (res1 Try.results8 (rok_t rfl)) (fun w' hS => ?_)
                      exact ⟨ret_bool (by first | rfl | (simp; done)), hS.pick [] _ rfl (by decide)⟩
                  · try (exfalso; omega)
                    all_goals
                      refine tl_skip rfl rfl rfl rfl ?_
                      refine tl_skip rfl rfl rfl rfl ?_
                      refine tl_skip rfl rfl rfl rfl ?_
                      refine tl_skip rfl rfl rfl rfl ?_
                      refine tl_skip rfl rfl rfl rfl ?_
                      refine tl_step rfl (oj_val (y_pickf (fe_t rfl) fe_c) ?_)
                      refine tl_step rfl (oj_val (y_assign (fe_t rfl)) ?_)
                      refine tl_nil ?_
                      refine tx_then ?_
                      refine tr_ret ?_
                      refine tx_ret (res1 Try.results8 (rok_t rfl)) (fun w' hS => ?_)
                      exact ⟨ret_bool (by first | rfl | (simp; done)), hS.pick [] _ rfl (by decide)⟩
  · try (exfalso; omega)
    all_goals
      refine tl_want rfl rfl rfl (oj_val (y_move (fe_t rfl)) ?_)
      refine tl_want rfl rfl rfl (oj_val (y_gtr (fe_t rfl) fe_c) ?_)
      refine tl_step rfl (oj_val (y_pickf (fe_t rfl) (fe_t rfl)) ?_)
      refine tl_step rfl (oj_val (y_move (fe_t rfl)) ?_)
      refine tl_splitp (d := 55) rfl (fun hq11 => ?_) (fun hq12 => ?_)
      · try (exfalso; omega)
        all_goals
          refine tl_skip rfl rfl rfl rfl ?_
          refine tl_skip rfl rfl rfl rfl ?_
          refine tl_skip rfl rfl rfl rfl ?_
          refine tl_step rfl (oj_val (y_pickt (fe_t rfl) fe_c) ?_)
          refine tl_step rfl (oj_val (y_move (fe_t rfl)) ?_)
          refine tl_skip rfl rfl rfl rfl ?_
          refine tl_skip rfl rfl rfl rfl ?_
          refine tl_skip rfl rfl rfl rfl ?_
          refine tl_step rfl (oj_val (y_pickt (fe_t rfl) fe_c) ?_)
          refine tl_nil ?_
          refine tx_then ?_
          refine tr_condt (fe_t rfl) ?_
          refine tr_seq ?_
          refine tr_region ?_
          refine tl_step rfl (oj_val (y_move (fe_t rfl)) ?_)
          refine tl_step rfl (oj_val (y_neq (fe_t rfl) fe_c) ?_)
          refine tl_step rfl (oj_val (y_move (fe_t rfl)) ?_)
          refine tl_splitp (d := 67) rfl (fun hq13 => ?_) (fun hq14 => ?_)
          · try (exfalso; omega)
            all_goals
              refine tl_skip rfl rfl rfl rfl ?_
              refine tl_skip rfl rfl rfl rfl ?_
              refine tl_step rfl (oj_val (y_pickt (fe_t rfl) fe_c) ?_)
              refine tl_nil ?_
              refine tx_then ?_
              exfalso; omega
          · try (exfalso; omega)
            all_goals
              refine tl_want rfl rfl rfl (oj_val (y_move (fe_t rfl)) ?_)
              refine tl_want rfl rfl rfl (oj_val (y_neq (fe_t rfl) fe_c) ?_)
              refine tl_step rfl (oj_val (y_pickf (fe_t rfl) (fe_t rfl)) ?_)
              refine tl_nil ?_
              refine tx_then ?_
              refine tr_condp (fe_t rfl) (fun hq15 => ?_) (fun hq16 => ?_)
              · exfalso; omega
              · try (exfalso; omega)
                all_goals
                  refine tr_skip ?_
                  refine tx_then ?_
                  refine tr_seq ?_
                  refine tr_seq ?_
                  refine tr_draw (sel _ [0, 1, 2, 3, 4]) (fun w h => h.sel _ rfl (by decide)) rfl ?_
                  refine ta_float (i := 0) rfl (by kernel_rfl) (wants_none rfl) (yq_of (y_ldbA 4 Try.isAgg81 Try.sizeOf81 (fe_t rfl) rfl rfl rfl)) ?_
                  refine ta_float (i := 1) rfl (by kernel_rfl) (wants_none rfl) (yq_call Try.call63 fe_f (fel_cons (fe_t rfl) fel_nil) (fun w' hS => of_bel (Sketch.right_yes A n c w' (Rd.below hr hS.below) hn (by omega) va))) ?_
                  refine ta_float (i := 2) rfl (by kernel_rfl) (wants_none rfl) (yq_of (y_ldbA 4 Try.isAgg81 Try.sizeOf81 (fe_t rfl) rfl rfl rfl)) ?_
                  refine ta_float (i := 3) rfl (by kernel_rfl) (wants_none rfl) (yq_call Try.call64 fe_f (fel_cons (fe_t rfl) fel_nil) (fun w' hS => of_bel (Sketch.vright_yes A n c w' (Rd.below hr hS.below) hn (by omega) va))) ?_
                  refine ta_float (i := 4) rfl (by kernel_rfl) (wants_none rfl) (yq_of (y_nebb Try.underlying4 (fe_t rfl) (fe_t rfl))) ?_
                  refine ta_float (i := 5) rfl (by kernel_rfl) (wants_none rfl) (yq_of (y_move (fe_t rfl))) ?_
                  refine ta_float (i := 6) rfl (by kernel_rfl) (wants_t rfl rfl rfl) (yq_of (y_move (fe_t rfl))) ?_
                  refine ta_float (i := 7) rfl (by kernel_rfl) (wants_t rfl rfl rfl) (yq_of (y_move (fe_t rfl))) ?_
                  refine ta_float (i := 8) rfl (by kernel_rfl) (wants_t rfl rfl rfl) (yq_of (y_neq (fe_t rfl) (fe_t rfl))) ?_
                  refine ta_float (i := 9) rfl (by kernel_rfl) (wants_none rfl) (yq_of (y_pickf (fe_t rfl) (fe_t rfl))) ?_
                  refine ta_float (i := 10) rfl (by kernel_rfl) (wants_none rfl) (yq_of (y_move (fe_t rfl))) ?_
                  refine ta_splitp (d := 92) rfl (fun hq17 => ?_) (fun hq18 => ?_)
                  · try (exfalso; omega)
                    all_goals
                      refine ta_skip (i := 11) rfl (by kernel_rfl) (wants_f rfl rfl rfl rfl) ?_
                      refine ta_skip (i := 12) rfl (by kernel_rfl) (wants_f rfl rfl rfl rfl) ?_
                      refine ta_skip (i := 13) rfl (by kernel_rfl) (wants_f rfl rfl rfl rfl) ?_
                      refine ta_skip (i := 14) rfl (by kernel_rfl) (wants_f rfl rfl rfl rfl) ?_
                      refine ta_float (i := 15) rfl (by kernel_rfl) (wants_none rfl) (yq_of (y_pickt (fe_t rfl) fe_c)) ?_
                      refine ta_done (by kernel_rfl) ?_
                      refine tx_then ?_
                      refine tr_condt (fe_t rfl) ?_
                      refine tr_seq ?_
                      refine tr_region ?_
                      refine tl_step rfl (oj_val (y_assign fe_c) ?_)
                      refine tl_nil ?_
                      refine tx_then ?_
                      refine tr_ret ?_
                      refine tx_then_ret ?_
                      refine tx_ret (res1 Try.results8 (rok_t rfl)) (fun w' hS => ?_)
                      exact ⟨ret_bool (by first | rfl | (simp; done)), hS.pick [] _ rfl (by decide)⟩
                  · try (exfalso; omega)
                    all_goals
                      refine ta_float (i := 11) rfl (by kernel_rfl) (wants_t rfl rfl rfl) (yq_of (y_ldbA 2 Try.isAgg81 Try.sizeOf81 (fe_t rfl) rfl rfl rfl)) ?_
                      refine ta_float (i := 12) rfl (by kernel_rfl) (wants_t rfl rfl rfl) (yq_of (y_ldbA 0 Try.isAgg81 Try.sizeOf81 (fe_t rfl) rfl rfl rfl)) ?_
                      refine ta_float (i := 13) rfl (by kernel_rfl) (wants_t rfl rfl rfl) (yq_call Try.call65 fe_f (fel_cons (fe_t rfl) (fel_cons (fe_t rfl) fel_nil)) (fun w' hS => same_vs Ah Vh w' (hS.holds 3 _ rfl) (hS.holds 1 _ rfl) (by omega) (by rw [upd_len]; omega))) ?_
                      refine ta_float (i := 14) rfl (by kernel_rfl) (wants_t rfl rfl rfl) (yq_of (y_not (fe_t rfl))) ?_
                      refine ta_float (i := 15) rfl (by kernel_rfl) (wants_none rfl) (yq_of (y_pickf (fe_t rfl) (fe_t rfl))) ?_
                      refine ta_done (by kernel_rfl) ?_
                      refine tx_then ?_
                      refine tr_condf (fe_t rfl) ?_
                      refine tr_skip ?_
                      refine tx_then ?_
                      refine tr_seq ?_
                      refine tr_seq ?_
                      refine tr_region ?_
                      refine tl_step rfl (oj_val (y_ldbA 4 Try.isAgg81 Try.sizeOf81 (fe_t rfl) rfl rfl rfl) ?_)
                      refine tl_step rfl (oj_callv Try.call64 fe_f (fel_cons (fe_t rfl) fel_nil) (fun w' hS => of_bel (Sketch.vright_yes A n c w' (Rd.below hr hS.below) hn (by omega) va)) ?_)
                      refine tl_step rfl (oj_val (y_not (fe_t rfl)) ?_)
                      refine tl_nil ?_
                      refine tx_then ?_
                      refine tr_condf (fe_t rfl) ?_
                      refine tr_skip ?_
                      refine tx_then ?_
                      refine tr_seq ?_
                      refine tr_region ?_
                      refine tl_step rfl (oj_val (y_move (fe_t rfl)) ?_)
                      refine tl_step rfl (oj_val (y_eq (fe_t rfl) fe_c) ?_)
                      refine tl_step rfl (oj_val (y_move (fe_t rfl)) ?_)
                      refine tl_splitp (d := 109) rfl (fun hq19 => ?_) (fun hq20 => ?_)
                      · try (exfalso; omega)
                        all_goals
                          refine tl_want rfl rfl rfl (oj_val (y_move (fe_t rfl)) ?_)
                          refine tl_want rfl rfl rfl (oj_val (y_ldbA 4 Try.isAgg81 Try.sizeOf81 (fe_t rfl) rfl rfl rfl) ?_)
                          refine tl_want rfl rfl rfl (oj_val (y_move (fe_t rfl)) ?_)
                          refine tl_want rfl rfl rfl (oj_callv Try.call66 fe_f (fel_cons (fe_t rfl) (fel_cons (fe_t rfl) fel_nil)) (fun w' hS => vcount_ok R A n c zs w' (Rd.below hr hS.below) hn va i0 i1) ?_)
                          refine tl_want rfl rfl rfl (oj_val (y_eq (fe_t rfl) (fe_t rfl)) ?_)
                          refine tl_step rfl (oj_val (y_pickt (fe_t rfl) (fe_t rfl)) ?_)
                          refine tl_step rfl (oj_val (y_assign (fe_t rfl)) ?_)
                          refine tl_nil ?_
                          refine tx_then ?_
                          refine tr_ret ?_
                          refine tx_ret (res1 Try.results8 (rok_t rfl)) (fun w' hS => ?_)
                          exact ⟨ret_bool (by first | rfl | (simp; done)), hS.pick [] _ rfl (by decide)⟩
                      · try (exfalso; omega)
                        all_goals
                          refine tl_skip rfl rfl rfl rfl ?_
                          refine tl_skip rfl rfl rfl rfl ?_
                          refine tl_skip rfl rfl rfl rfl ?_
                          refine tl_skip rfl rfl rfl rfl ?_
                          refine tl_skip rfl rfl rfl rfl ?_
                          refine tl_step rfl (oj_val (y_pickf (fe_t rfl) fe_c) ?_)
                          refine tl_step rfl (oj_val (y_assign (fe_t rfl)) ?_)
                          refine tl_nil ?_
                          refine tx_then ?_
                          refine tr_ret ?_
                          refine tx_ret (res1 Try.results8 (rok_t rfl)) (fun w' hS => ?_)
                          exact ⟨ret_bool (by first | rfl | (simp; done)), hS.pick [] _ rfl (by decide)⟩
      · try (exfalso; omega)
        all_goals
          refine tl_want rfl rfl rfl (oj_val (y_fieldAddr (td := 3) Try.underlying81 rfl rfl Try.sizeOf3 (o' := 1) rfl (fe_t rfl)) ?_)
          refine tl_want rfl rfl rfl (oj_val (y_ldb 4 Try.isAgg3 (fe_t rfl) rfl rfl) ?_)
          refine tl_want rfl rfl rfl (oj_val (y_lss (fe_t rfl) fe_c) ?_)
          refine tl_step rfl (oj_val (y_pickf (fe_t rfl) (fe_t rfl)) ?_)
          refine tl_step rfl (oj_val (y_move (fe_t rfl)) ?_)
          refine tl_splitp (d := 60) rfl (fun hq21 => ?_) (fun hq22 => ?_)
          · try (exfalso; omega)
            all_goals
              refine tl_skip rfl rfl rfl rfl ?_
              refine tl_skip rfl rfl rfl rfl ?_
              refine tl_skip rfl rfl rfl rfl ?_
              refine tl_step rfl (oj_val (y_pickt (fe_t rfl) fe_c) ?_)
              refine tl_nil ?_
              refine tx_then ?_
              refine tr_condt (fe_t rfl) ?_
              refine tr_seq ?_
              refine tr_region ?_
              refine tl_step rfl (oj_val (y_move (fe_t rfl)) ?_)
              refine tl_step rfl (oj_val (y_neq (fe_t rfl) fe_c) ?_)
              refine tl_step rfl (oj_val (y_move (fe_t rfl)) ?_)
              refine tl_splitp (d := 67) rfl (fun hq23 => ?_) (fun hq24 => ?_)
              · try (exfalso; omega)
                all_goals
                  refine tl_skip rfl rfl rfl rfl ?_
                  refine tl_skip rfl rfl rfl rfl ?_
                  refine tl_step rfl (oj_val (y_pickt (fe_t rfl) fe_c) ?_)
                  refine tl_nil ?_
                  refine tx_then ?_
                  exfalso; omega
              · try (exfalso; omega)
                all_goals
                  refine tl_want rfl rfl rfl (oj_val (y_move (fe_t rfl)) ?_)
                  refine tl_want rfl rfl rfl (oj_val (y_neq (fe_t rfl) fe_c) ?_)
                  refine tl_step rfl (oj_val (y_pickf (fe_t rfl) (fe_t rfl)) ?_)
                  refine tl_nil ?_
                  refine tx_then ?_
                  refine tr_condp (fe_t rfl) (fun hq25 => ?_) (fun hq26 => ?_)
                  · exfalso; omega
                  · try (exfalso; omega)
                    all_goals
                      refine tr_skip ?_
                      refine tx_then ?_
                      refine tr_seq ?_
                      refine tr_seq ?_
                      refine tr_draw (sel _ [0, 1, 2, 3, 4]) (fun w h => h.sel _ rfl (by decide)) rfl ?_
                      refine ta_float (i := 0) rfl (by kernel_rfl) (wants_none rfl) (yq_of (y_ldbA 4 Try.isAgg81 Try.sizeOf81 (fe_t rfl) rfl rfl rfl)) ?_
                      refine ta_float (i := 1) rfl (by kernel_rfl) (wants_none rfl) (yq_call Try.call63 fe_f (fel_cons (fe_t rfl) fel_nil) (fun w' hS => of_bel (Sketch.right_yes A n c w' (Rd.below hr hS.below) hn (by omega) va))) ?_
                      refine ta_float (i := 2) rfl (by kernel_rfl) (wants_none rfl) (yq_of (y_ldbA 4 Try.isAgg81 Try.sizeOf81 (fe_t rfl) rfl rfl rfl)) ?_
                      refine ta_float (i := 3) rfl (by kernel_rfl) (wants_none rfl) (yq_call Try.call64 fe_f (fel_cons (fe_t rfl) fel_nil) (fun w' hS => of_bel (Sketch.vright_yes A n c w' (Rd.below hr hS.below) hn (by omega) va))) ?_
                      refine ta_float (i := 4) rfl (by kernel_rfl) (wants_none rfl) (yq_of (y_nebb Try.underlying4 (fe_t rfl) (fe_t rfl))) ?_
                      refine ta_float (i := 5) rfl (by kernel_rfl) (wants_none rfl) (yq_of (y_move (fe_t rfl))) ?_
                      refine ta_float (i := 6) rfl (by kernel_rfl) (wants_t rfl rfl rfl) (yq_of (y_move (fe_t rfl))) ?_
                      refine ta_float (i := 7) rfl (by kernel_rfl) (wants_t rfl rfl rfl) (yq_of (y_move (fe_t rfl))) ?_
                      refine ta_float (i := 8) rfl (by kernel_rfl) (wants_t rfl rfl rfl) (yq_of (y_neq (fe_t rfl) (fe_t rfl))) ?_
                      refine ta_float (i := 9) rfl (by kernel_rfl) (wants_none rfl) (yq_of (y_pickf (fe_t rfl) (fe_t rfl))) ?_
                      refine ta_float (i := 10) rfl (by kernel_rfl) (wants_none rfl) (yq_of (y_move (fe_t rfl))) ?_
                      refine ta_splitp (d := 92) rfl (fun hq27 => ?_) (fun hq28 => ?_)
                      · try (exfalso; omega)
                        all_goals
                          refine ta_skip (i := 11) rfl (by kernel_rfl) (wants_f rfl rfl rfl rfl) ?_
                          refine ta_skip (i := 12) rfl (by kernel_rfl) (wants_f rfl rfl rfl rfl) ?_
                          refine ta_skip (i := 13) rfl (by kernel_rfl) (wants_f rfl rfl rfl rfl) ?_
                          refine ta_skip (i := 14) rfl (by kernel_rfl) (wants_f rfl rfl rfl rfl) ?_
                          refine ta_float (i := 15) rfl (by kernel_rfl) (wants_none rfl) (yq_of (y_pickt (fe_t rfl) fe_c)) ?_
                          refine ta_done (by kernel_rfl) ?_
                          refine tx_then ?_
                          refine tr_condt (fe_t rfl) ?_
                          refine tr_seq ?_
                          refine tr_region ?_
                          refine tl_step rfl (oj_val (y_assign fe_c) ?_)
                          refine tl_nil ?_
                          refine tx_then ?_
                          refine tr_ret ?_
                          refine tx_then_ret ?_
                          refine tx_ret (res1 Try.results8 (rok_t rfl)) (fun w' hS => ?_)
                          exact ⟨ret_bool (by first | rfl | (simp; done)), hS.pick [] _ rfl (by decide)⟩
                      · try (exfalso; omega)
                        all_goals
                          refine ta_float (i := 11) rfl (by kernel_rfl) (wants_t rfl rfl rfl) (yq_of (y_ldbA 2 Try.isAgg81 Try.sizeOf81 (fe_t rfl) rfl rfl rfl)) ?_
                          refine ta_float (i := 12) rfl (by kernel_rfl) (wants_t rfl rfl rfl) (yq_of (y_ldbA 0 Try.isAgg81 Try.sizeOf81 (fe_t rfl) rfl rfl rfl)) ?_
                          refine ta_float (i := 13) rfl (by kernel_rfl) (wants_t rfl rfl rfl) (yq_call Try.call65 fe_f (fel_cons (fe_t rfl) (fel_cons (fe_t rfl) fel_nil)) (fun w' hS => same_vs Ah Vh w' (hS.holds 3 _ rfl) (hS.holds 1 _ rfl) (by omega) (by rw [upd_len]; omega))) ?_
                          refine ta_float (i := 14) rfl (by kernel_rfl) (wants_t rfl rfl rfl) (yq_of (y_not (fe_t rfl))) ?_
                          refine ta_float (i := 15) rfl (by kernel_rfl) (wants_none rfl) (yq_of (y_pickf (fe_t rfl) (fe_t rfl))) ?_
                          refine ta_done (by kernel_rfl) ?_
                          refine tx_then ?_
                          refine tr_condf (fe_t rfl) ?_
                          refine tr_skip ?_
                          refine tx_then ?_
                          refine tr_seq ?_
                          refine tr_seq ?_
                          refine tr_region ?_
                          refine tl_step rfl (oj_val (y_ldbA 4 Try.isAgg81 Try.sizeOf81 (fe_t rfl) rfl rfl rfl) ?_)
                          refine tl_step rfl (oj_callv Try.call64 fe_f (fel_cons (fe_t rfl) fel_nil) (fun w' hS => of_bel (Sketch.vright_yes A n c w' (Rd.below hr hS.below) hn (by omega) va)) ?_)
                          refine tl_step rfl (oj_val (y_not (fe_t rfl)) ?_)
                          refine tl_nil ?_
                          refine tx_then ?_
                          refine tr_condf (fe_t rfl) ?_
                          refine tr_skip ?_
                          refine tx_then ?_
                          refine tr_seq ?_
                          refine tr_region ?_
                          refine tl_step rfl (oj_val (y_move (fe_t rfl)) ?_)
                          refine tl_step rfl (oj_val (y_eq (fe_t rfl) fe_c) ?_)
                          refine tl_step rfl (oj_val (y_move (fe_t rfl)) ?_)
                          refine tl_splitp (d := 109) rfl (fun hq29 => ?_) (fun hq30 => ?_)
                          · try (exfalso; omega)
                            all_goals
                              refine tl_want rfl rfl rfl (oj_val (y_move (fe_t rfl)) ?_)
                              refine tl_want rfl rfl rfl (oj_val (y_ldbA 4 Try.isAgg81 Try.sizeOf81 (fe_t rfl) rfl rfl rfl) ?_)
                              refine tl_want rfl rfl rfl (oj_val (y_move (fe_t rfl)) ?_)
                              refine tl_want rfl rfl rfl (oj_callv Try.call66 fe_f (fel_cons (fe_t rfl) (fel_cons (fe_t rfl) fel_nil)) (fun w' hS => vcount_ok R A n c zs w' (Rd.below hr hS.below) hn va i0 i1) ?_)
                              refine tl_want rfl rfl rfl (oj_val (y_eq (fe_t rfl) (fe_t rfl)) ?_)
                              refine tl_step rfl (oj_val (y_pickt (fe_t rfl) (fe_t rfl)) ?_)
                              refine tl_step rfl (oj_val (y_assign (fe_t rfl)) ?_)
                              refine tl_nil ?_
                              refine tx_then ?_
                              refine tr_ret ?_
                              refine tx_ret (res1 Try.results8 (rok_t rfl)) (fun w' hS => ?_)
                              exact ⟨ret_bool (by first | rfl | (simp; done)), hS.pick [] _ rfl (by decide)⟩
                          · try (exfalso; omega)
                            all_goals
                              refine tl_skip rfl rfl rfl rfl ?_
                              refine tl_skip rfl rfl rfl rfl ?_
                              refine tl_skip rfl rfl rfl rfl ?_
                              refine tl_skip rfl rfl rfl rfl ?_
                              refine tl_skip rfl rfl rfl rfl ?_
                              refine tl_step rfl (oj_val (y_pickf (fe_t rfl) fe_c) ?_)
                              refine tl_step rfl (oj_val (y_assign (fe_t rfl)) ?_)
                              refine tl_nil ?_
                              refine tx_then ?_
                              refine tr_ret ?_
                              refine tx_ret (res1 Try.results8 (rok_t rfl)) (fun w' hS => ?_)
                              exact ⟨ret_bool (by first | rfl | (simp; done)), hS.pick [] _ rfl (by decide)⟩
          · try (exfalso; omega)
            all_goals
              refine tl_want rfl rfl rfl (oj_val (y_fieldAddr (td := 3) Try.underlying81 rfl rfl Try.sizeOf3 (o' := 1) rfl (fe_t rfl)) ?_)
              refine tl_want rfl rfl rfl (oj_val (y_ldb 4 Try.isAgg3 (fe_t rfl) rfl rfl) ?_)
              refine tl_want rfl rfl rfl (oj_val (y_gtr (fe_t rfl) fe_c) ?_)
              refine tl_step rfl (oj_val (y_pickf (fe_t rfl) (fe_t rfl)) ?_)
              refine tl_nil ?_
              refine tx_then ?_
              refine tr_condp (fe_t rfl) (fun hq31 => ?_) (fun hq32 => ?_)
              · try (exfalso; omega)
                all_goals
                  refine tr_seq ?_
                  refine tr_region ?_
                  refine tl_step rfl (oj_val (y_move (fe_t rfl)) ?_)
                  refine tl_step rfl (oj_val (y_neq (fe_t rfl) fe_c) ?_)
                  refine tl_step rfl (oj_val (y_move (fe_t rfl)) ?_)
                  refine tl_splitp (d := 67) rfl (fun hq33 => ?_) (fun hq34 => ?_)
                  · try (exfalso; omega)
                    all_goals
                      refine tl_skip rfl rfl rfl rfl ?_
                      refine tl_skip rfl rfl rfl rfl ?_
                      refine tl_step rfl (oj_val (y_pickt (fe_t rfl) fe_c) ?_)
                      refine tl_nil ?_
                      refine tx_then ?_
                      exfalso; omega
                  · try (exfalso; omega)
                    all_goals
                      refine tl_want rfl rfl rfl (oj_val (y_move (fe_t rfl)) ?_)
                      refine tl_want rfl rfl rfl (oj_val (y_neq (fe_t rfl) fe_c) ?_)
                      refine tl_step rfl (oj_val (y_pickf (fe_t rfl) (fe_t rfl)) ?_)
                      refine tl_nil ?_
                      refine tx_then ?_
                      refine tr_condp (fe_t rfl) (fun hq35 => ?_) (fun hq36 => ?_)
                      · exfalso; omega
                      · try (exfalso; omega)
                        all_goals
                          refine tr_skip ?_
                          refine tx_then ?_
                          refine tr_seq ?_
                          refine tr_seq ?_
                          refine tr_draw (sel _ [0, 1, 2, 3, 4]) (fun w h => h.sel _ rfl (by decide)) rfl ?_
                          refine ta_float (i := 0) rfl (by kernel_rfl) (wants_none rfl) (yq_of (y_ldbA 4 Try.isAgg81 Try.sizeOf81 (fe_t rfl) rfl rfl rfl)) ?_
                          refine ta_float (i := 1) rfl (by kernel_rfl) (wants_none rfl) (yq_call Try.call63 fe_f (fel_cons (fe_t rfl) fel_nil) (fun w' hS => of_bel (Sketch.right_yes A n c w' (Rd.below hr hS.below) hn (by omega) va))) ?_
                          refine ta_float (i := 2) rfl (by kernel_rfl) (wants_none rfl) (yq_of (y_ldbA 4 Try.isAgg81 Try.sizeOf81 (fe_t rfl) rfl rfl rfl)) ?_
                          refine ta_float (i := 3) rfl (by kernel_rfl) (wants_none rfl) (yq_call Try.call64 fe_f (fel_cons (fe_t rfl) fel_nil) (fun w' hS => of_bel (Sketch.vright_yes A n c w' (Rd.below hr hS.below) hn (by omega) va))) ?_
                          refine ta_float (i := 4) rfl (by kernel_rfl) (wants_none rfl) (yq_of (y_nebb Try.underlying4 (fe_t rfl) (fe_t rfl))) ?_
                          refine ta_float (i := 5) rfl (by kernel_rfl) (wants_none rfl) (yq_of (y_move (fe_t rfl))) ?_
                          refine ta_float (i := 6) rfl (by kernel_rfl) (wants_t rfl rfl rfl) (yq_of (y_move (fe_t rfl))) ?_
                          refine ta_float (i := 7) rfl (by kernel_rfl) (wants_t rfl rfl rfl) (yq_of (y_move (fe_t rfl))) ?_
                          refine ta_float (i := 8) rfl (by kernel_rfl) (wants_t rfl rfl rfl) (yq_of (y_neq (fe_t rfl) (fe_t rfl))) ?_
                          refine ta_float (i := 9) rfl (by kernel_rfl) (wants_none rfl) (yq_of (y_pickf (fe_t rfl) (fe_t rfl))) ?_
                          refine ta_float (i := 10) rfl (by kernel_rfl) (wants_none rfl) (yq_of (y_move (fe_t rfl))) ?_
                          refine ta_splitp (d := 92) rfl (fun hq37 => ?_) (fun hq38 => ?_)
                          · try (exfalso; omega)
                            all_goals
                              refine ta_skip (i := 11) rfl (by kernel_rfl) (wants_f rfl rfl rfl rfl) ?_
                              refine ta_skip (i := 12) rfl (by kernel_rfl) (wants_f rfl rfl rfl rfl) ?_
                              refine ta_skip (i := 13) rfl (by kernel_rfl) (wants_f rfl rfl rfl rfl) ?_
                              refine ta_skip (i := 14) rfl (by kernel_rfl) (wants_f rfl rfl rfl rfl) ?_
                              refine ta_float (i := 15) rfl (by kernel_rfl) (wants_none rfl) (yq_of (y_pickt (fe_t rfl) fe_c)) ?_
                              refine ta_done (by kernel_rfl) ?_
                              refine tx_then ?_
                              refine tr_condt (fe_t rfl) ?_
                              refine tr_seq ?_
                              refine tr_region ?_
                              refine tl_step rfl (oj_val (y_assign fe_c) ?_)
                              refine tl_nil ?_
                              refine tx_then ?_
                              refine tr_ret ?_
                              refine tx_then_ret ?_
                              refine tx_ret (res1 Try.results8 (rok_t rfl)) (fun w' hS => ?_)
                              exact ⟨ret_bool (by first | rfl | (simp; done)), hS.pick [] _ rfl (by decide)⟩
                          · try (exfalso; omega)
                            all_goals
                              refine ta_float (i := 11) rfl (by kernel_rfl) (wants_t rfl rfl rfl) (yq_of (y_ldbA 2 Try.isAgg81 Try.sizeOf81 (fe_t rfl) rfl rfl rfl)) ?_
                              refine ta_float (i := 12) rfl (by kernel_rfl) (wants_t rfl rfl rfl) (yq_of (y_ldbA 0 Try.isAgg81 Try.sizeOf81 (fe_t rfl) rfl rfl rfl)) ?_
                              refine ta_float (i := 13) rfl (by kernel_rfl) (wants_t rfl rfl rfl) (yq_call Try.call65 fe_f (fel_cons (fe_t rfl) (fel_cons (fe_t rfl) fel_nil)) (fun w' hS => same_vs Ah Vh w' (hS.holds 3 _ rfl) (hS.holds 1 _ rfl) (by omega) (by rw [upd_len]; omega))) ?_
                              refine ta_float (i := 14) rfl (by kernel_rfl) (wants_t rfl rfl rfl) (yq_of (y_not (fe_t rfl))) ?_
                              refine ta_float (i := 15) rfl (by kernel_rfl) (wants_none rfl) (yq_of (y_pickf (fe_t rfl) (fe_t rfl))) ?_
                              refine ta_done (by kernel_rfl) ?_
                              refine tx_then ?_
                              refine tr_condf (fe_t rfl) ?_
                              refine tr_skip ?_
                              refine tx_then ?_
                              refine tr_seq ?_
                              refine tr_seq ?_
                              refine tr_region ?_
                              refine tl_step rfl (oj_val (y_ldbA 4 Try.isAgg81 Try.sizeOf81 (fe_t rfl) rfl rfl rfl) ?_)
                              refine tl_step rfl (oj_callv Try.call64 fe_f (fel_cons (fe_t rfl) fel_nil) (fun w' hS => of_bel (Sketch.vright_yes A n c w' (Rd.below hr hS.below) hn (by omega) va)) ?_)
                              refine tl_step rfl (oj_val (y_not (fe_t rfl)) ?_)
                              refine tl_nil ?_
                              refine tx_then ?_
                              refine tr_condf (fe_t rfl) ?_
                              refine tr_skip ?_
                              refine tx_then ?_
                              refine tr_seq ?_
                              refine tr_region ?_
                              refine tl_step rfl (oj_val (y_move (fe_t rfl)) ?_)
                              refine tl_step rfl (oj_val (y_eq (fe_t rfl) fe_c) ?_)
                              refine tl_step rfl (oj_val (y_move (fe_t rfl)) ?_)
                              refine tl_splitp (d := 109) rfl (fun hq39 => ?_) (fun hq40 => ?_)
                              · try (exfalso; omega)
                                all_goals
                                  refine tl_want rfl rfl rfl (oj_val (y_move (fe_t rfl)) ?_)
                                  refine tl_want rfl rfl rfl (oj_val (y_ldbA 4 Try.isAgg81 Try.sizeOf81 (fe_t rfl) rfl rfl rfl) ?_)
                                  refine tl_want rfl rfl rfl (oj_val (y_move (fe_t rfl)) ?_)
                                  refine tl_want rfl rfl rfl (oj_callv Try.call66 fe_f (fel_cons (fe_t rfl) (fel_cons (fe_t rfl) fel_nil)) (fun w' hS => vcount_ok R A n c zs w' (Rd.below hr hS.below) hn va i0 i1) ?_)
                                  refine tl_want rfl rfl rfl (oj_val (y_eq (fe_t rfl) (fe_t rfl)) ?_)
                                  refine tl_step rfl (oj_val (y_pickt (fe_t rfl) (fe_t rfl)) ?_)
                                  refine tl_step rfl (oj_val (y_assign (fe_t rfl)) ?_)
                                  refine tl_nil ?_
                                  refine tx_then ?_
                                  refine tr_ret ?_
                                  refine tx_ret (res1 Try.results8 (rok_t rfl)) (fun w' hS => ?_)
                                  exact ⟨ret_bool (by first | rfl | (simp; done)), hS.pick [] _ rfl (by decide)⟩
                              · try (exfalso; omega)
                                all_goals
                                  refine tl_skip rfl rfl rfl rfl ?_
                                  refine tl_skip rfl rfl rfl rfl ?_
                                  refine tl_skip rfl rfl rfl rfl ?_
                                  refine tl_skip rfl rfl rfl rfl ?_
                                  refine tl_skip rfl rfl rfl rfl ?_
                                  refine tl_step rfl (oj_val (y_pickf (fe_t rfl) fe_c) ?_)
                                  refine tl_step rfl (oj_val (y_assign (fe_t rfl)) ?_)
                                  refine tl_nil ?_
                                  refine tx_then ?_
                                  refine tr_ret ?_
                                  refine tx_ret (res1 Try.results8 (rok_t rfl)) (fun w' hS => ?_)
                                  exact ⟨ret_bool (by first | rfl | (simp; done)), hS.pick [] _ rfl (by decide)⟩
              · exfalso; omega

end Go.Proofs.Ytcpdelkamckmfaa.Frac
