/- Walk: the law SketchJoins. -/
import Derived.Test.YtdfjeoifeladfaaSkE9
import Derived.Test.YtdfjeoifeladfaaEqE
namespace Go.Proofs.Ytdfjeoifeladfaa.SketchJoins
open Go.RowKit Go.Proofs.Ytdfjeoifeladfaa.E Go.Proofs.Ytdfjeoifeladfaa.Sketch

set_option maxRecDepth 100000 in
set_option maxHeartbeats 4000000 in
theorem walk_bad_ok (rows width r1 x1 : Int) (A B : Option Addr) (n c d : Nat) (za zb : List Int) (w : World) (hr : Rd w A (za.map (.int .i64))) (hr' : Rd w B (zb.map (.int .i64))) (hn : za.length = n) (hm : zb.length = n) (ln : n ≤ 140737488355328) (hd : dims rows width = false) (va : vright r1 x1 za = true) (vb : vright r1 x1 zb = true) (hf : full za zb = false) :
    Calls Try.prog 4 #[(.int .i64 rows), (.int .i64 width), .agg #[(.int .i64 r1), (.int .i64 x1), .slice A n c], .agg #[(.int .i64 r1), (.int .i64 x1), .slice B n d]] w fun e w' => e = .returned (.bool true) ∧ E.St w w' [] := by
  have hd' := dims_not hd
  have hpos : 1 ≤ n ∧ n ≤ 512 := by
    have va' := va
    simp only [vright, Bool.and_eq_true, beq_iff_eq] at va'
    have := dims_prod va'.1.1
    omega
  refine calls_tr Try.func4 Try.ntmps4 rfl rfl (St.refl _) ?_
  refine tr_seq ?_
  refine tr_region ?_
  refine tl_step rfl (oj_box (fe_t rfl) (fun b1 => ?_))
  refine tl_step rfl (oj_box (fe_t rfl) (fun b2 => ?_))
  refine tl_step rfl (oj_val (y_assign fe_c) ?_)
  refine tl_nil ?_
  refine tx_then ?_
  refine tr_seq ?_
  refine tr_region ?_
  refine tl_step rfl (oj_val (y_move (fe_t rfl)) ?_)
  refine tl_step rfl (oj_val (y_move (fe_t rfl)) ?_)
  refine tl_step rfl (oj_callv Try.call19 fe_f (fel_cons (fe_t rfl) (fel_cons (fe_t rfl) fel_nil)) (fun w' hS => snew_bad rows width w' hd) ?_)
  refine tl_step rfl (oj_val (y_move (fe_t rfl)) ?_)
  refine tl_step rfl (oj_val (y_extract (fe_t rfl) rfl) ?_)
  refine tl_step rfl (oj_val (y_extract (fe_t rfl) rfl) ?_)
  refine tl_step rfl (oj_alloc Try.zeroValue33 (fun b3 => ?_))
  refine tl_step rfl (oj_storeW 0 Try.sizeOf33 (fe_t rfl) (fe_t rfl) rfl rfl rfl rfl rfl (?_))
  refine tl_step rfl (oj_val (y_assign (fe_t rfl)) ?_)
  refine tl_nil ?_
  refine tx_then ?_
  refine tr_seq ?_
  refine tr_region ?_
  refine tl_step rfl (oj_val (y_ldbA 2 Try.isAgg33 Try.sizeOf33 (fe_t rfl) rfl rfl rfl) ?_)
  refine tl_step rfl (oj_val (y_ldbA 1 Try.isAgg33 Try.sizeOf33 (fe_t rfl) rfl rfl rfl) ?_)
  refine tl_step rfl (oj_call Try.call20 fe_f (fel_cons (fe_t rfl) (fel_cons (fe_t rfl) fel_nil)) (fun w' hS => sjoin_ok r1 x1 A B n c d za zb w' (Rd.below hr hS.below) (Rd.below hr' hS.below) hn hm va vb hf) (fun q hq => ?_))
  refine tl_step rfl (oj_val (y_move (fe_t rfl)) ?_)
  refine tl_step rfl (oj_val (y_extract (fe_t rfl) rfl) ?_)
  refine tl_step rfl (oj_val (y_extract (fe_t rfl) rfl) ?_)
  refine tl_step rfl (oj_alloc Try.zeroValue33 (fun b4 => ?_))
  refine tl_step rfl (oj_storeW 0 Try.sizeOf33 (fe_t rfl) (fe_t rfl) rfl rfl rfl rfl rfl (?_))
  refine tl_step rfl (oj_val (y_assign (fe_t rfl)) ?_)
  refine tl_nil ?_
  refine tx_then ?_
  refine tr_seq ?_
  refine tr_seq ?_
  refine tr_region ?_
  refine tl_step rfl (oj_val (y_move (fe_t rfl)) ?_)
  refine tl_step rfl (oj_val (y_lss (fe_t rfl) fe_c) ?_)
  refine tl_step rfl (oj_val (y_move (fe_t rfl)) ?_)
  refine tl_splitp (d := 30) rfl (fun hq1 => ?_) (fun hq2 => ?_)
  · try (exfalso; omega)
    all_goals
      refine tl_skip rfl rfl rfl rfl ?_
      refine tl_skip rfl rfl rfl rfl ?_
      refine tl_step rfl (oj_val (y_pickt (fe_t rfl) fe_c) ?_)
      refine tl_step rfl (oj_val (y_move (fe_t rfl)) ?_)
      refine tl_skip rfl rfl rfl rfl ?_
      refine tl_skip rfl rfl rfl rfl ?_
      refine tl_step rfl (oj_val (y_pickt (fe_t rfl) fe_c) ?_)
      refine tl_step rfl (oj_val (y_move (fe_t rfl)) ?_)
      refine tl_skip rfl rfl rfl rfl ?_
      refine tl_skip rfl rfl rfl rfl ?_
      refine tl_step rfl (oj_val (y_pickt (fe_t rfl) fe_c) ?_)
      refine tl_nil ?_
      refine tx_then ?_
      refine tr_condt (fe_t rfl) ?_
      refine tr_seq ?_
      refine tr_region ?_
      refine tl_step rfl (oj_val (y_move (fe_t rfl)) ?_)
      refine tl_step rfl (oj_val (y_neq (fe_t rfl) fe_c) ?_)
      refine tl_step rfl (oj_val (y_move (fe_t rfl)) ?_)
      refine tl_splitp (d := 44) rfl (fun hq3 => ?_) (fun hq4 => ?_)
      · try (exfalso; omega)
        all_goals
          refine tl_skip rfl rfl rfl rfl ?_
          refine tl_skip rfl rfl rfl rfl ?_
          refine tl_skip rfl rfl rfl rfl ?_
          refine tl_skip rfl rfl rfl rfl ?_
          refine tl_step rfl (oj_val (y_pickt (fe_t rfl) fe_c) ?_)
          refine tl_nil ?_
          refine tx_then ?_
          exfalso; omega
      · try (exfalso; omega)
        all_goals
          refine tl_want rfl rfl rfl (oj_val (y_ldbA 2 Try.isAgg33 Try.sizeOf33 (fe_t rfl) rfl rfl rfl) ?_)
          refine tl_want rfl rfl rfl (oj_val (y_build (is := []) (vs := []) (cs := [.int .i64 0, .int .i64 0, .slice none 0 0]) rfl fel_nil (by kernel_rfl)) ?_)
          refine tl_want rfl rfl rfl (oj_callv Try.call21 fe_f (fel_cons (fe_t rfl) (fel_cons (fe_t rfl) fel_nil)) (fun w' hS => of_bel (same_any 0 0 none none 0 0 0 [] w' Rd.nil Rd.nil rfl (by omega))) ?_)
          refine tl_want rfl rfl rfl (oj_val (y_not (fe_t rfl)) ?_)
          refine tl_step rfl (oj_val (y_pickf (fe_t rfl) (fe_t rfl)) ?_)
          refine tl_nil ?_
          refine tx_then ?_
          refine tr_condf (fe_t rfl) ?_
          refine tr_skip ?_
          refine tx_then ?_
          refine tr_seq ?_
          refine tr_seq ?_
          refine tr_region ?_
          refine tl_step rfl (oj_val (y_ldbA 4 Try.isAgg33 Try.sizeOf33 (fe_t rfl) rfl rfl rfl) ?_)
          refine tl_step rfl (oj_callv Try.call22 fe_f (fel_cons (fe_t rfl) fel_nil) (fun w' hS => of_bel (vright_yes A n c w' (Rd.below hr hS.below) hn (by omega) va)) ?_)
          refine tl_step rfl (oj_val (y_not (fe_t rfl)) ?_)
          refine tl_step rfl (oj_val (y_move (fe_t rfl)) ?_)
          refine tl_want rfl rfl rfl (oj_val (y_ldbA 3 Try.isAgg33 Try.sizeOf33 (fe_t rfl) rfl rfl rfl) ?_)
          refine tl_want rfl rfl rfl (oj_callv Try.call22 fe_f (fel_cons (fe_t rfl) fel_nil) (fun w' hS => of_bel (vright_yes B n d w' (Rd.below hr' hS.below) hm (by omega) vb)) ?_)
          refine tl_want rfl rfl rfl (oj_val (y_not (fe_t rfl)) ?_)
          refine tl_step rfl (oj_val (y_pickf (fe_t rfl) (fe_t rfl)) ?_)
          refine tl_step rfl (oj_val (y_move (fe_t rfl)) ?_)
          refine tl_want rfl rfl rfl (oj_val (y_fieldAddr (td := 3) Try.underlying33 rfl rfl Try.sizeOf3 (o' := 0) rfl (fe_t rfl)) ?_)
          refine tl_want rfl rfl rfl (oj_val (y_ldb 4 Try.isAgg3 (fe_t rfl) rfl rfl) ?_)
          refine tl_want rfl rfl rfl (oj_val (y_fieldAddr (td := 3) Try.underlying33 rfl rfl Try.sizeOf3 (o' := 0) rfl (fe_t rfl)) ?_)
          refine tl_want rfl rfl rfl (oj_val (y_ldb 3 Try.isAgg3 (fe_t rfl) rfl rfl) ?_)
          refine tl_want rfl rfl rfl (oj_val (y_neq (fe_t rfl) (fe_t rfl)) ?_)
          refine tl_step rfl (oj_val (y_pickf (fe_t rfl) (fe_t rfl)) ?_)
          refine tl_step rfl (oj_val (y_move (fe_t rfl)) ?_)
          refine tl_splitp (d := 79) rfl (fun hq5 => ?_) (fun hq6 => ?_)
          · try (exfalso; omega)
            all_goals
              refine tl_skip rfl rfl rfl rfl ?_
              refine tl_skip rfl rfl rfl rfl ?_
              refine tl_skip rfl rfl rfl rfl ?_
              refine tl_skip rfl rfl rfl rfl ?_
              refine tl_skip rfl rfl rfl rfl ?_
              refine tl_step rfl (oj_val (y_pickt (fe_t rfl) fe_c) ?_)
              refine tl_nil ?_
              refine tx_then ?_
              exfalso; omega
          · try (exfalso; omega)
            all_goals
              refine tl_want rfl rfl rfl (oj_val (y_fieldAddr (td := 3) Try.underlying33 rfl rfl Try.sizeOf3 (o' := 1) rfl (fe_t rfl)) ?_)
              refine tl_want rfl rfl rfl (oj_val (y_ldb 4 Try.isAgg3 (fe_t rfl) rfl rfl) ?_)
              refine tl_want rfl rfl rfl (oj_val (y_fieldAddr (td := 3) Try.underlying33 rfl rfl Try.sizeOf3 (o' := 1) rfl (fe_t rfl)) ?_)
              refine tl_want rfl rfl rfl (oj_val (y_ldb 3 Try.isAgg3 (fe_t rfl) rfl rfl) ?_)
              refine tl_want rfl rfl rfl (oj_val (y_neq (fe_t rfl) (fe_t rfl)) ?_)
              refine tl_step rfl (oj_val (y_pickf (fe_t rfl) (fe_t rfl)) ?_)
              refine tl_nil ?_
              refine tx_then ?_
              refine tr_condp (fe_t rfl) (fun hq7 => ?_) (fun hq8 => ?_)
              · exfalso; omega
              · try (exfalso; omega)
                all_goals
                  refine tr_skip ?_
                  refine tx_then ?_
                  refine tr_seq ?_
                  refine tr_region ?_
                  refine tl_step rfl (oj_val (y_fieldAddr (td := 3) Try.underlying33 rfl rfl Try.sizeOf3 (o' := 0) rfl (fe_t rfl)) ?_)
                  refine tl_step rfl (oj_val (y_ldb 4 Try.isAgg3 (fe_t rfl) rfl rfl) ?_)
                  refine tl_step rfl (oj_val (y_fieldAddr (td := 3) Try.underlying33 rfl rfl Try.sizeOf3 (o' := 1) rfl (fe_t rfl)) ?_)
                  refine tl_step rfl (oj_val (y_ldb 4 Try.isAgg3 (fe_t rfl) rfl rfl) ?_)
                  refine tl_step rfl (oj_val ((fun {u0 u1} hx hb => y_build (is := [0, 1]) (vs := [u0, u1]) (cs := [u0, u1, .slice none 0 0]) rfl hx hb) (fel_cons (fe_t rfl) (fel_cons (fe_t rfl) fel_nil)) (by kernel_rfl)) ?_)
                  refine tl_step rfl (oj_alloc Try.zeroValue33 (fun wb => ?_))
                  refine tl_step rfl (oj_storeW 0 Try.sizeOf33 (fe_t rfl) (fe_t rfl) rfl rfl rfl rfl rfl (?_))
                  refine tl_nil ?_
                  refine tx_then ?_
                  refine tr_seq ?_
                  refine tr_region ?_
                  refine tl_step rfl (oj_val (y_assign fe_c) ?_)
                  refine tl_nil ?_
                  refine tx_then ?_
                  refine tr_seq ?_
                  refine tr_seq ?_
                  refine tr_region ?_
                  refine tl_step rfl (oj_val (y_fieldAddr (td := 31) Try.underlying33 rfl rfl Try.sizeOf31 (o' := 2) rfl (fe_t rfl)) ?_)
                  refine tl_step rfl (oj_val (y_ldb 5 Try.isAgg31 (fe_t rfl) rfl rfl) ?_)
                  refine tl_step rfl (oj_val (y_len Try.underlying31 (fe_t rfl)) ?_)
                  refine tl_step rfl (oj_val (y_move fe_c) ?_)
                  refine tl_nil ?_
                  refine tx_then ?_
                  refine tr_block ?_
                  refine tr_add (r := vec 3 1 (.slice none 0 0) 0 []) vec_nil rfl ?_
                  refine tr_loop3 [14, 15, 101, 102, 103, 104, 105, 106, 107, 108, 109, 110, 111, 112, 113, 114, 115, 116, 117, 118, 119, 120, 121, 122, 123, 124, 125, 126, 127, 128, 129, 130, 131, 132, 133, 134, 135] (fun (k : Nat) (fb : Bool) (s1 : Vs) => [(101, .int .i64 (k : Int)), (14, .bool fb)]) 0 (fun (k : Nat) (fb : Bool) (s1 : Vs) => [(1, blk wb [.int .i64 r1, .int .i64 x1, .slice s1.A s1.n s1.c]), (0, vec 3 1 (.slice s1.A s1.n s1.c) s1.n s1.xs)]) (fun (k : Nat) (fb : Bool) (s1 : Vs) => k ≤ n ∧ fb = ((sums za zb).take k).any (fun n => decide (1099511627776 < n)) ∧ s1.n = k ∧ s1.xs = cI ((sums za zb).take k)) (fun (k : Nat) (fb : Bool) (s1 : Vs) => n - k) (0) (false) (⟨none, 0, 0, []⟩ : Vs) (cov_cons (by first | rfl | exact v_int (by omega) | exact v_bool (by simp [*])) (cov_cons (by first | rfl | exact v_int (by omega) | exact v_bool (by simp [*])) (cov_nil))) (fun w h => h) ?_ ?_
                  · try dsimp only
                    simp [cI]
                  intro k fb s1 hp
                  obtain ⟨hk, hfb, hs1n, hs1x⟩ := hp
                  refine tr_seq ?_
                  refine tr_region ?_
                  refine tl_step rfl (oj_val (y_lss (fe_t rfl) (fe_t rfl)) ?_)
                  refine tl_nil ?_
                  refine tx_then ?_
                  refine tr_seq ?_
                  refine tr_condp (fe_t rfl) (fun hq9 => ?_) (fun hq10 => ?_)
                  · try (exfalso; omega)
                    all_goals
                      refine tr_skip ?_
                      refine tx_then ?_
                      refine tr_seq ?_
                      refine tr_block ?_
                      refine tr_seq ?_
                      refine tr_region ?_
                      refine tl_step rfl (oj_val (y_move (fe_t rfl)) ?_)
                      refine tl_step rfl (oj_val (y_assign (fe_t rfl)) ?_)
                      refine tl_nil ?_
                      refine tx_then ?_
                      refine tr_seq ?_
                      have hza := good_cells va k (by omega)
                      have hzb := good_cells vb k (by omega)
                      refine tr_draw (sel _ [2, 3, 4, 5, 6]) (fun w h => h.sel _ rfl (by decide)) rfl ?_
                      refine ta_float (i := 0) rfl (by kernel_rfl) (wants_none rfl) (yq_of (y_fieldAddr (td := 31) Try.underlying33 rfl rfl Try.sizeOf31 (o' := 2) rfl (fe_t rfl))) ?_
                      refine ta_float (i := 2) rfl (by kernel_rfl) (wants_none rfl) (yq_of (y_fieldAddr (td := 31) Try.underlying33 rfl rfl Try.sizeOf31 (o' := 2) rfl (fe_t rfl))) ?_
                      refine ta_float (i := 3) rfl (by kernel_rfl) (wants_none rfl) (yq_of (y_ldb 4 Try.isAgg31 (fe_t rfl) rfl rfl)) ?_
                      refine ta_float (i := 4) rfl (by kernel_rfl) (wants_none rfl) (yq_of (y_move (fe_t rfl))) ?_
                      refine ta_float (i := 5) rfl (by kernel_rfl) (wants_none rfl) (yq_of (y_index Try.underlying31 Try.sizeOf3 (fe_t rfl) (fe_t rfl) (rdl_out hr) (by first | (simp; done) | (simp; omega)) (by decide) (by omega) (Nat.mul_one _))) ?_
                      refine ta_float (i := 6) rfl (by kernel_rfl) (wants_none rfl) (yq_of (y_ld Try.isAgg3 (fe_t rfl) (rdl_out hr) (getI (by omega)))) ?_
                      refine ta_float (i := 7) rfl (by kernel_rfl) (wants_none rfl) (yq_of (y_fieldAddr (td := 31) Try.underlying33 rfl rfl Try.sizeOf31 (o' := 2) rfl (fe_t rfl))) ?_
                      refine ta_float (i := 8) rfl (by kernel_rfl) (wants_none rfl) (yq_of (y_ldb 3 Try.isAgg31 (fe_t rfl) rfl rfl)) ?_
                      refine ta_float (i := 9) rfl (by kernel_rfl) (wants_none rfl) (yq_of (y_move (fe_t rfl))) ?_
                      refine ta_float (i := 10) rfl (by kernel_rfl) (wants_none rfl) (yq_of (y_index Try.underlying31 Try.sizeOf3 (fe_t rfl) (fe_t rfl) (rdl_out hr') (by first | (simp; done) | (simp; omega)) (by decide) (by omega) (Nat.mul_one _))) ?_
                      refine ta_float (i := 11) rfl (by kernel_rfl) (wants_none rfl) (yq_of (y_ld Try.isAgg3 (fe_t rfl) (rdl_out hr') (getI (by omega)))) ?_
                      refine ta_float (i := 12) rfl (by kernel_rfl) (wants_none rfl) (yq_of (y_add (fe_t rfl) (fe_t rfl) (by omega))) ?_
                      refine ta_two (i := 1) (j := 13) rfl rfl (by kernel_rfl) (wants_none rfl) (wants_none rfl) ?_ ?_
                      · refine oj_val (y_ldb 1 Try.isAgg31 (fe_t rfl) rfl rfl) (⟨fun w h => h.pick [2, 3, 4, 5, 6] _ rfl (by decide), ?_⟩)
                        refine ta_one (i := 13) rfl (by kernel_rfl) (wants_none rfl) (oj_slice1 Try.underlying31 Try.sizeOf3 Try.zeroValue3 (fe_t rfl) (by decide) rfl (fun b5 => ⟨fun w h => h.pick [3, 4, 5, 6, 7] _ rfl (by decide), ?_⟩))
                        refine ta_one (i := 14) rfl (by kernel_rfl) (wants_none rfl) (oj_append (i := 1) (s := 1) (z := (.int .i64 0)) (bytes := 8) Try.underlying31 (by kernel_rfl) (fe_t rfl) (fe_t rfl) rfl (rdl_blk 0 rfl) rfl (by decide) (by first | exact oneI | exact oneF (fun _ => rfl) | exact fun u hu => List.all_eq_true.1 (show List.all _ (fun x => x.oneCell') = true from rfl) u hu | (intro u hu; revert u hu; simp [Value.oneCell'])) (by decide) ⟨by omega, by decide⟩ (fun Aa1 ca1 hca1 => ⟨fun w h => h.pick [3, 4, 5, 6, 7] _ rfl (by decide), ?_⟩))
                        refine ta_float (i := 15) rfl (by kernel_rfl) (wants_none rfl) (yq_of (y_fieldAddr (td := 31) Try.underlying33 rfl rfl Try.sizeOf31 (o' := 2) rfl (fe_t rfl))) ?_
                        refine ta_one (i := 16) rfl (by kernel_rfl) (wants_none rfl) (oj_store1 2 Try.sizeOf31 (fe_t rfl) (fe_t rfl) rfl rfl rfl rfl (⟨fun w h => h.pick [3, 4, 5, 6, 7] _ rfl (by decide), ?_⟩))
                        refine ta_done (by kernel_rfl) ?_
                        refine tx_then ?_
                        refine tr_draw (sel _ [0, 1, 2, 3, 4, 5, 6, 7]) (fun w h => h.sel _ rfl (by decide)) rfl ?_
                        refine ta_float (i := 0) rfl (by kernel_rfl) (wants_none rfl) (yq_of (y_move (fe_t rfl))) ?_
                        refine ta_float (i := 1) rfl (by kernel_rfl) (wants_none rfl) (yq_of (y_move (fe_t rfl))) ?_
                        refine ta_split (d := 121) rfl (fun hq11 => ?_) (fun hq12 => ?_)
                        · try (exfalso; omega)
                          all_goals
                            refine ta_skip (i := 2) rfl (by kernel_rfl) (wants_f rfl rfl rfl rfl) ?_
                            refine ta_skip (i := 3) rfl (by kernel_rfl) (wants_f rfl rfl rfl rfl) ?_
                            refine ta_skip (i := 4) rfl (by kernel_rfl) (wants_f rfl rfl rfl rfl) ?_
                            refine ta_skip (i := 5) rfl (by kernel_rfl) (wants_f rfl rfl rfl rfl) ?_
                            refine ta_skip (i := 6) rfl (by kernel_rfl) (wants_f rfl rfl rfl rfl) ?_
                            refine ta_skip (i := 7) rfl (by kernel_rfl) (wants_f rfl rfl rfl rfl) ?_
                            refine ta_skip (i := 8) rfl (by kernel_rfl) (wants_f rfl rfl rfl rfl) ?_
                            refine ta_skip (i := 9) rfl (by kernel_rfl) (wants_f rfl rfl rfl rfl) ?_
                            refine ta_skip (i := 10) rfl (by kernel_rfl) (wants_f rfl rfl rfl rfl) ?_
                            refine ta_skip (i := 11) rfl (by kernel_rfl) (wants_f rfl rfl rfl rfl) ?_
                            refine ta_skip (i := 12) rfl (by kernel_rfl) (wants_f rfl rfl rfl rfl) ?_
                            refine ta_skip (i := 13) rfl (by kernel_rfl) (wants_f rfl rfl rfl rfl) ?_
                            refine ta_float (i := 14) rfl (by kernel_rfl) (wants_none rfl) (yq_of (y_pickt (fe_t rfl) fe_c)) ?_
                            refine ta_float (i := 15) rfl (by kernel_rfl) (wants_none rfl) (yq_of (y_assign (fe_t rfl))) ?_
                            refine ta_done (by kernel_rfl) ?_
                            refine tx_in ?_
                            refine tx_then ?_
                            refine tr_region ?_
                            refine tl_step rfl (oj_val (y_inc (fe_t rfl) fe_c (by omega)) ?_)
                            refine tl_step rfl (oj_val (y_move (fe_t rfl)) ?_)
                            refine tl_nil ?_
                            apply tx_back3 (k + 1) (true) ((⟨_, _, _, _⟩ : Vs))
                            · exact (cov_cons (by first | rfl | exact v_int (by omega) | exact v_bool (by simp [*])) (cov_cons (by first | rfl | exact v_int (by omega) | exact v_bool (by simp [*])) (cov_nil)))
                            · repeat (first | exact over_nil | refine over_put rfl ?_ | refine over_drop rfl ?_)
                            · exact fun w h => h.pick [1, 2, 3, 4, 5, 6, 7] _ rfl (by decide)
                            · have hsg := sums_get (a := za) (b := zb) (k := k) (by omega) (by omega)
                              have hlt : k < (sums za zb).length := by rw [sums_len (by omega)]; omega
                              refine ⟨⟨by omega, ?_, by dsimp only; omega, ?_⟩, by omega⟩
                              · rw [any_succ _ _ _ hlt, hsg, ← hfb]
                                clear hfb hs1x
                                simp [*]
                              · dsimp only
                                rw [hs1x, List.take_succ_eq_append_getElem hlt, cI, cI, List.map_append, hsg]
                                rfl
                        · try (exfalso; omega)
                          all_goals
                            refine ta_float (i := 2) rfl (by kernel_rfl) (wants_t rfl rfl rfl) (yq_of (y_fieldAddr (td := 31) Try.underlying33 rfl rfl Try.sizeOf31 (o' := 2) rfl (fe_t rfl))) ?_
                            refine ta_float (i := 3) rfl (by kernel_rfl) (wants_t rfl rfl rfl) (yq_of (y_ldb 7 Try.isAgg31 (fe_t rfl) rfl rfl)) ?_
                            refine ta_float (i := 4) rfl (by kernel_rfl) (wants_t rfl rfl rfl) (yq_of (y_move (fe_t rfl))) ?_
                            refine ta_float (i := 5) rfl (by kernel_rfl) (wants_t rfl rfl rfl) (yq_of (y_index Try.underlying31 Try.sizeOf3 (fe_t rfl) (fe_t rfl) (rdl_out hr) (by first | (simp; done) | (simp; omega)) (by decide) (by omega) (Nat.mul_one _))) ?_
                            refine ta_float (i := 6) rfl (by kernel_rfl) (wants_t rfl rfl rfl) (yq_of (y_ld Try.isAgg3 (fe_t rfl) (rdl_out hr) (getI (by omega)))) ?_
                            refine ta_float (i := 7) rfl (by kernel_rfl) (wants_t rfl rfl rfl) (yq_of (y_fieldAddr (td := 31) Try.underlying33 rfl rfl Try.sizeOf31 (o' := 2) rfl (fe_t rfl))) ?_
                            refine ta_float (i := 8) rfl (by kernel_rfl) (wants_t rfl rfl rfl) (yq_of (y_ldb 6 Try.isAgg31 (fe_t rfl) rfl rfl)) ?_
                            refine ta_float (i := 9) rfl (by kernel_rfl) (wants_t rfl rfl rfl) (yq_of (y_move (fe_t rfl))) ?_
                            refine ta_float (i := 10) rfl (by kernel_rfl) (wants_t rfl rfl rfl) (yq_of (y_index Try.underlying31 Try.sizeOf3 (fe_t rfl) (fe_t rfl) (rdl_out hr') (by first | (simp; done) | (simp; omega)) (by decide) (by omega) (Nat.mul_one _))) ?_
                            refine ta_float (i := 11) rfl (by kernel_rfl) (wants_t rfl rfl rfl) (yq_of (y_ld Try.isAgg3 (fe_t rfl) (rdl_out hr') (getI (by omega)))) ?_
                            refine ta_float (i := 12) rfl (by kernel_rfl) (wants_t rfl rfl rfl) (yq_of (y_add (fe_t rfl) (fe_t rfl) (by omega))) ?_
                            refine ta_float (i := 13) rfl (by kernel_rfl) (wants_t rfl rfl rfl) (yq_of (y_gtr (fe_t rfl) fe_c)) ?_
                            refine ta_float (i := 14) rfl (by kernel_rfl) (wants_none rfl) (yq_of (y_pickf (fe_t rfl) (fe_t rfl))) ?_
                            refine ta_float (i := 15) rfl (by kernel_rfl) (wants_none rfl) (yq_of (y_assign (fe_t rfl))) ?_
                            refine ta_done (by kernel_rfl) ?_
                            refine tx_in ?_
                            refine tx_then ?_
                            refine tr_region ?_
                            refine tl_step rfl (oj_val (y_inc (fe_t rfl) fe_c (by omega)) ?_)
                            refine tl_step rfl (oj_val (y_move (fe_t rfl)) ?_)
                            refine tl_nil ?_
                            apply tx_back3 (k + 1) (_) ((⟨_, _, _, _⟩ : Vs))
                            · exact (cov_cons (by first | rfl | exact v_int (by omega) | exact v_bool (by simp [*])) (cov_cons (by first | rfl | exact v_int (by omega) | exact v_bool (by simp [*])) (cov_nil)))
                            · repeat (first | exact over_nil | refine over_put rfl ?_ | refine over_drop rfl ?_)
                            · exact fun w h => h.pick [1, 2, 3, 4, 5, 6, 7] _ rfl (by decide)
                            · have hsg := sums_get (a := za) (b := zb) (k := k) (by omega) (by omega)
                              have hlt : k < (sums za zb).length := by rw [sums_len (by omega)]; omega
                              refine ⟨⟨by omega, ?_, by dsimp only; omega, ?_⟩, by omega⟩
                              · rw [any_succ _ _ _ hlt, hsg, ← hfb]
                                clear hfb hs1x
                                simp [*]
                              · dsimp only
                                rw [hs1x, List.take_succ_eq_append_getElem hlt, cI, cI, List.map_append, hsg]
                                rfl
                      · refine oj_slice1 Try.underlying31 Try.sizeOf3 Try.zeroValue3 (fe_t rfl) (by decide) rfl (fun b6 => ⟨fun w h => h.pick [3, 4, 5, 6, 7] _ rfl (by decide), ?_⟩)
                        refine ta_one (i := 1) rfl (by kernel_rfl) (wants_none rfl) (oj_val (y_ldb 2 Try.isAgg31 (fe_t rfl) rfl rfl) (⟨fun w h => h.pick [3, 4, 5, 6, 7] _ rfl (by decide), ?_⟩))
                        refine ta_one (i := 14) rfl (by kernel_rfl) (wants_none rfl) (oj_append (i := 1) (s := 1) (z := (.int .i64 0)) (bytes := 8) Try.underlying31 (by kernel_rfl) (fe_t rfl) (fe_t rfl) rfl (rdl_blk 0 rfl) rfl (by decide) (by first | exact oneI | exact oneF (fun _ => rfl) | exact fun u hu => List.all_eq_true.1 (show List.all _ (fun x => x.oneCell') = true from rfl) u hu | (intro u hu; revert u hu; simp [Value.oneCell'])) (by decide) ⟨by omega, by decide⟩ (fun Aa2 ca2 hca2 => ⟨fun w h => h.pick [3, 4, 5, 6, 7] _ rfl (by decide), ?_⟩))
                        refine ta_float (i := 15) rfl (by kernel_rfl) (wants_none rfl) (yq_of (y_fieldAddr (td := 31) Try.underlying33 rfl rfl Try.sizeOf31 (o' := 2) rfl (fe_t rfl))) ?_
                        refine ta_one (i := 16) rfl (by kernel_rfl) (wants_none rfl) (oj_store1 2 Try.sizeOf31 (fe_t rfl) (fe_t rfl) rfl rfl rfl rfl (⟨fun w h => h.pick [3, 4, 5, 6, 7] _ rfl (by decide), ?_⟩))
                        refine ta_done (by kernel_rfl) ?_
                        refine tx_then ?_
                        refine tr_draw (sel _ [0, 1, 2, 3, 4, 5, 6, 7]) (fun w h => h.sel _ rfl (by decide)) rfl ?_
                        refine ta_float (i := 0) rfl (by kernel_rfl) (wants_none rfl) (yq_of (y_move (fe_t rfl))) ?_
                        refine ta_float (i := 1) rfl (by kernel_rfl) (wants_none rfl) (yq_of (y_move (fe_t rfl))) ?_
                        refine ta_split (d := 121) rfl (fun hq13 => ?_) (fun hq14 => ?_)
                        · try (exfalso; omega)
                          all_goals
                            refine ta_skip (i := 2) rfl (by kernel_rfl) (wants_f rfl rfl rfl rfl) ?_
                            refine ta_skip (i := 3) rfl (by kernel_rfl) (wants_f rfl rfl rfl rfl) ?_
                            refine ta_skip (i := 4) rfl (by kernel_rfl) (wants_f rfl rfl rfl rfl) ?_
                            refine ta_skip (i := 5) rfl (by kernel_rfl) (wants_f rfl rfl rfl rfl) ?_
                            refine ta_skip (i := 6) rfl (by kernel_rfl) (wants_f rfl rfl rfl rfl) ?_
                            refine ta_skip (i := 7) rfl (by kernel_rfl) (wants_f rfl rfl rfl rfl) ?_
                            refine ta_skip (i := 8) rfl (by kernel_rfl) (wants_f rfl rfl rfl rfl) ?_
                            refine ta_skip (i := 9) rfl (by kernel_rfl) (wants_f rfl rfl rfl rfl) ?_
                            refine ta_skip (i := 10) rfl (by kernel_rfl) (wants_f rfl rfl rfl rfl) ?_
                            refine ta_skip (i := 11) rfl (by kernel_rfl) (wants_f rfl rfl rfl rfl) ?_
                            refine ta_skip (i := 12) rfl (by kernel_rfl) (wants_f rfl rfl rfl rfl) ?_
                            refine ta_skip (i := 13) rfl (by kernel_rfl) (wants_f rfl rfl rfl rfl) ?_
                            refine ta_float (i := 14) rfl (by kernel_rfl) (wants_none rfl) (yq_of (y_pickt (fe_t rfl) fe_c)) ?_
                            refine ta_float (i := 15) rfl (by kernel_rfl) (wants_none rfl) (yq_of (y_assign (fe_t rfl))) ?_
                            refine ta_done (by kernel_rfl) ?_
                            refine tx_in ?_
                            refine tx_then ?_
                            refine tr_region ?_
                            refine tl_step rfl (oj_val (y_inc (fe_t rfl) fe_c (by omega)) ?_)
                            refine tl_step rfl (oj_val (y_move (fe_t rfl)) ?_)
                            refine tl_nil ?_
                            apply tx_back3 (k + 1) (true) ((⟨_, _, _, _⟩ : Vs))
                            · exact (cov_cons (by first | rfl | exact v_int (by omega) | exact v_bool (by simp [*])) (cov_cons (by first | rfl | exact v_int (by omega) | exact v_bool (by simp [*])) (cov_nil)))
                            · repeat (first | exact over_nil | refine over_put rfl ?_ | refine over_drop rfl ?_)
                            · exact fun w h => h.pick [1, 2, 3, 4, 5, 6, 7] _ rfl (by decide)
                            · have hsg := sums_get (a := za) (b := zb) (k := k) (by omega) (by omega)
                              have hlt : k < (sums za zb).length := by rw [sums_len (by omega)]; omega
                              refine ⟨⟨by omega, ?_, by dsimp only; omega, ?_⟩, by omega⟩
                              · rw [any_succ _ _ _ hlt, hsg, ← hfb]
                                clear hfb hs1x
                                simp [*]
                              · dsimp only
                                rw [hs1x, List.take_succ_eq_append_getElem hlt, cI, cI, List.map_append, hsg]
                                rfl
                        · try (exfalso; omega)
                          all_goals
                            refine ta_float (i := 2) rfl (by kernel_rfl) (wants_t rfl rfl rfl) (yq_of (y_fieldAddr (td := 31) Try.underlying33 rfl rfl Try.sizeOf31 (o' := 2) rfl (fe_t rfl))) ?_
                            refine ta_float (i := 3) rfl (by kernel_rfl) (wants_t rfl rfl rfl) (yq_of (y_ldb 7 Try.isAgg31 (fe_t rfl) rfl rfl)) ?_
                            refine ta_float (i := 4) rfl (by kernel_rfl) (wants_t rfl rfl rfl) (yq_of (y_move (fe_t rfl))) ?_
                            refine ta_float (i := 5) rfl (by kernel_rfl) (wants_t rfl rfl rfl) (yq_of (y_index Try.underlying31 Try.sizeOf3 (fe_t rfl) (fe_t rfl) (rdl_out hr) (by first | (simp; done) | (simp; omega)) (by decide) (by omega) (Nat.mul_one _))) ?_
                            refine ta_float (i := 6) rfl (by kernel_rfl) (wants_t rfl rfl rfl) (yq_of (y_ld Try.isAgg3 (fe_t rfl) (rdl_out hr) (getI (by omega)))) ?_
                            refine ta_float (i := 7) rfl (by kernel_rfl) (wants_t rfl rfl rfl) (yq_of (y_fieldAddr (td := 31) Try.underlying33 rfl rfl Try.sizeOf31 (o' := 2) rfl (fe_t rfl))) ?_
                            refine ta_float (i := 8) rfl (by kernel_rfl) (wants_t rfl rfl rfl) (yq_of (y_ldb 6 Try.isAgg31 (fe_t rfl) rfl rfl)) ?_
                            refine ta_float (i := 9) rfl (by kernel_rfl) (wants_t rfl rfl rfl) (yq_of (y_move (fe_t rfl))) ?_
                            refine ta_float (i := 10) rfl (by kernel_rfl) (wants_t rfl rfl rfl) (yq_of (y_index Try.underlying31 Try.sizeOf3 (fe_t rfl) (fe_t rfl) (rdl_out hr') (by first | (simp; done) | (simp; omega)) (by decide) (by omega) (Nat.mul_one _))) ?_
                            refine ta_float (i := 11) rfl (by kernel_rfl) (wants_t rfl rfl rfl) (yq_of (y_ld Try.isAgg3 (fe_t rfl) (rdl_out hr') (getI (by omega)))) ?_
                            refine ta_float (i := 12) rfl (by kernel_rfl) (wants_t rfl rfl rfl) (yq_of (y_add (fe_t rfl) (fe_t rfl) (by omega))) ?_
                            refine ta_float (i := 13) rfl (by kernel_rfl) (wants_t rfl rfl rfl) (yq_of (y_gtr (fe_t rfl) fe_c)) ?_
                            refine ta_float (i := 14) rfl (by kernel_rfl) (wants_none rfl) (yq_of (y_pickf (fe_t rfl) (fe_t rfl))) ?_
                            refine ta_float (i := 15) rfl (by kernel_rfl) (wants_none rfl) (yq_of (y_assign (fe_t rfl))) ?_
                            refine ta_done (by kernel_rfl) ?_
                            refine tx_in ?_
                            refine tx_then ?_
                            refine tr_region ?_
                            refine tl_step rfl (oj_val (y_inc (fe_t rfl) fe_c (by omega)) ?_)
                            refine tl_step rfl (oj_val (y_move (fe_t rfl)) ?_)
                            refine tl_nil ?_
                            apply tx_back3 (k + 1) (_) ((⟨_, _, _, _⟩ : Vs))
                            · exact (cov_cons (by first | rfl | exact v_int (by omega) | exact v_bool (by simp [*])) (cov_cons (by first | rfl | exact v_int (by omega) | exact v_bool (by simp [*])) (cov_nil)))
                            · repeat (first | exact over_nil | refine over_put rfl ?_ | refine over_drop rfl ?_)
                            · exact fun w h => h.pick [1, 2, 3, 4, 5, 6, 7] _ rfl (by decide)
                            · have hsg := sums_get (a := za) (b := zb) (k := k) (by omega) (by omega)
                              have hlt : k < (sums za zb).length := by rw [sums_len (by omega)]; omega
                              refine ⟨⟨by omega, ?_, by dsimp only; omega, ?_⟩, by omega⟩
                              · rw [any_succ _ _ _ hlt, hsg, ← hfb]
                                clear hfb hs1x
                                simp [*]
                              · dsimp only
                                rw [hs1x, List.take_succ_eq_append_getElem hlt, cI, cI, List.map_append, hsg]
                                rfl
                  · try (exfalso; omega)
                    all_goals
                      refine tr_exit ?_
                      refine tx_then_exit ?_
                      refine tx_then_exit ?_
                      refine tx_in_exit ?_
                      refine tx_then ?_
                      refine tr_seq ?_
                      refine tr_seq ?_
                      refine tr_region ?_
                      refine tl_step rfl (oj_val (y_move (fe_t rfl)) ?_)
                      refine tl_nil ?_
                      refine tx_then ?_
                      refine tr_cond (fe_t rfl) (fun hq15 => ?_) (fun hq16 => ?_)
                      · exfalso; rw [hfb, List.take_of_length_le (by rw [sums_len (by omega)]; omega)] at hq15; rw [full] at hf; rw [hf] at hq15; cases hq15
                      · try (exfalso; omega)
                        all_goals
                          refine tr_skip ?_
                          refine tx_then ?_
                          refine tr_seq ?_
                          refine tr_region ?_
                          refine tl_step rfl (oj_val (y_move (fe_t rfl)) ?_)
                          refine tl_step rfl (oj_val (y_eq (fe_t rfl) fe_c) ?_)
                          refine tl_step rfl (oj_val (y_move (fe_t rfl)) ?_)
                          refine tl_splitp (d := 146) rfl (fun hq17 => ?_) (fun hq18 => ?_)
                          · try (exfalso; omega)
                            all_goals
                              refine tl_want rfl rfl rfl (oj_val (y_ldbA 2 Try.isAgg33 Try.sizeOf33 (fe_t rfl) rfl rfl rfl) ?_)
                              refine tl_want rfl rfl rfl (oj_val (y_ldbA 1 Try.isAgg33 Try.sizeOf33 (fe_t rfl) rfl rfl rfl) ?_)
                              refine tl_want rfl rfl rfl (oj_callv Try.call21 fe_f (fel_cons (fe_t rfl) (fel_cons (fe_t rfl) fel_nil)) (fun w' hS => same_eq r1 x1 q.1 s1.A za.length s1.n q.2 s1.c (sums za zb) w' (OwnV.rd (hS.holds 3 _ rfl)).2.2 (by have h := (OwnV.rd (hS.holds 0 _ rfl)).2.2; rw [hs1x, List.take_of_length_le (by rw [sums_len (by omega)]; omega)] at h; exact h) (by rw [sums_len (by omega)]) (by omega) (by omega)) ?_)
                              refine tl_step rfl (oj_val (y_pickt (fe_t rfl) (fe_t rfl)) ?_)
                              refine tl_step rfl (oj_val (y_assign (fe_t rfl)) ?_)
                              refine tl_nil ?_
                              refine tx_then ?_
                              refine tr_ret ?_
                              refine tx_ret (res1 Try.results4 (rok_t rfl)) (fun w' hS => ?_)
                              exact ⟨ret_bool (by first | rfl | (simp; done)), hS.pick [] _ rfl (by decide)⟩
                          · try (exfalso; omega)
                            all_goals
                              refine tl_skip rfl rfl rfl rfl ?_
                              refine tl_skip rfl rfl rfl rfl ?_
                              refine tl_skip rfl rfl rfl rfl ?_
                              refine tl_step rfl (oj_val (y_pickf (fe_t rfl) fe_c) ?_)
                              refine tl_step rfl (oj_val (y_assign (fe_t rfl)) ?_)
                              refine tl_nil ?_
                              refine tx_then ?_
                              refine tr_ret ?_
                              refine tx_ret (res1 Try.results4 (rok_t rfl)) (fun w' hS => ?_)
                              exact ⟨ret_bool (by first | rfl | (simp; done)), hS.pick [] _ rfl (by decide)⟩
  · try (exfalso; omega)
    all_goals
      refine tl_want rfl rfl rfl (oj_val (y_move (fe_t rfl)) ?_)
      refine tl_want rfl rfl rfl (oj_val (y_gtr (fe_t rfl) fe_c) ?_)
      refine tl_step rfl (oj_val (y_pickf (fe_t rfl) (fe_t rfl)) ?_)
      refine tl_step rfl (oj_val (y_move (fe_t rfl)) ?_)
      refine tl_splitp (d := 34) rfl (fun hq19 => ?_) (fun hq20 => ?_)
      · try (exfalso; omega)
        all_goals
          refine tl_skip rfl rfl rfl rfl ?_
          refine tl_skip rfl rfl rfl rfl ?_
          refine tl_step rfl (oj_val (y_pickt (fe_t rfl) fe_c) ?_)
          refine tl_step rfl (oj_val (y_move (fe_t rfl)) ?_)
          refine tl_skip rfl rfl rfl rfl ?_
          refine tl_skip rfl rfl rfl rfl ?_
          refine tl_step rfl (oj_val (y_pickt (fe_t rfl) fe_c) ?_)
          refine tl_nil ?_
          refine tx_then ?_
          refine tr_condt (fe_t rfl) ?_
          refine tr_seq ?_
          refine tr_region ?_
          refine tl_step rfl (oj_val (y_move (fe_t rfl)) ?_)
          refine tl_step rfl (oj_val (y_neq (fe_t rfl) fe_c) ?_)
          refine tl_step rfl (oj_val (y_move (fe_t rfl)) ?_)
          refine tl_splitp (d := 44) rfl (fun hq21 => ?_) (fun hq22 => ?_)
          · try (exfalso; omega)
            all_goals
              refine tl_skip rfl rfl rfl rfl ?_
              refine tl_skip rfl rfl rfl rfl ?_
              refine tl_skip rfl rfl rfl rfl ?_
              refine tl_skip rfl rfl rfl rfl ?_
              refine tl_step rfl (oj_val (y_pickt (fe_t rfl) fe_c) ?_)
              refine tl_nil ?_
              refine tx_then ?_
              exfalso; omega
          · try (exfalso; omega)
            all_goals
              refine tl_want rfl rfl rfl (oj_val (y_ldbA 2 Try.isAgg33 Try.sizeOf33 (fe_t rfl) rfl rfl rfl) ?_)
              refine tl_want rfl rfl rfl (oj_val (y_build (is := []) (vs := []) (cs := [.int .i64 0, .int .i64 0, .slice none 0 0]) rfl fel_nil (by kernel_rfl)) ?_)
              refine tl_want rfl rfl rfl (oj_callv Try.call21 fe_f (fel_cons (fe_t rfl) (fel_cons (fe_t rfl) fel_nil)) (fun w' hS => of_bel (same_any 0 0 none none 0 0 0 [] w' Rd.nil Rd.nil rfl (by omega))) ?_)
              refine tl_want rfl rfl rfl (oj_val (y_not (fe_t rfl)) ?_)
              refine tl_step rfl (oj_val (y_pickf (fe_t rfl) (fe_t rfl)) ?_)
              refine tl_nil ?_
              refine tx_then ?_
              refine tr_condf (fe_t rfl) ?_
              refine tr_skip ?_
              refine tx_then ?_
              refine tr_seq ?_
              refine tr_seq ?_
              refine tr_region ?_
              refine tl_step rfl (oj_val (y_ldbA 4 Try.isAgg33 Try.sizeOf33 (fe_t rfl) rfl rfl rfl) ?_)
              refine tl_step rfl (oj_callv Try.call22 fe_f (fel_cons (fe_t rfl) fel_nil) (fun w' hS => of_bel (vright_yes A n c w' (Rd.below hr hS.below) hn (by omega) va)) ?_)
              refine tl_step rfl (oj_val (y_not (fe_t rfl)) ?_)
              refine tl_step rfl (oj_val (y_move (fe_t rfl)) ?_)
              refine tl_want rfl rfl rfl (oj_val (y_ldbA 3 Try.isAgg33 Try.sizeOf33 (fe_t rfl) rfl rfl rfl) ?_)
              refine tl_want rfl rfl rfl (oj_callv Try.call22 fe_f (fel_cons (fe_t rfl) fel_nil) (fun w' hS => of_bel (vright_yes B n d w' (Rd.below hr' hS.below) hm (by omega) vb)) ?_)
              refine tl_want rfl rfl rfl (oj_val (y_not (fe_t rfl)) ?_)
              refine tl_step rfl (oj_val (y_pickf (fe_t rfl) (fe_t rfl)) ?_)
              refine tl_step rfl (oj_val (y_move (fe_t rfl)) ?_)
              refine tl_want rfl rfl rfl (oj_val (y_fieldAddr (td := 3) Try.underlying33 rfl rfl Try.sizeOf3 (o' := 0) rfl (fe_t rfl)) ?_)
              refine tl_want rfl rfl rfl (oj_val (y_ldb 4 Try.isAgg3 (fe_t rfl) rfl rfl) ?_)
              refine tl_want rfl rfl rfl (oj_val (y_fieldAddr (td := 3) Try.underlying33 rfl rfl Try.sizeOf3 (o' := 0) rfl (fe_t rfl)) ?_)
              refine tl_want rfl rfl rfl (oj_val (y_ldb 3 Try.isAgg3 (fe_t rfl) rfl rfl) ?_)
              refine tl_want rfl rfl rfl (oj_val (y_neq (fe_t rfl) (fe_t rfl)) ?_)
              refine tl_step rfl (oj_val (y_pickf (fe_t rfl) (fe_t rfl)) ?_)
              refine tl_step rfl (oj_val (y_move (fe_t rfl)) ?_)
              refine tl_splitp (d := 79) rfl (fun hq23 => ?_) (fun hq24 => ?_)
              · try (exfalso; omega)
                all_goals
                  refine tl_skip rfl rfl rfl rfl ?_
                  refine tl_skip rfl rfl rfl rfl ?_
                  refine tl_skip rfl rfl rfl rfl ?_
                  refine tl_skip rfl rfl rfl rfl ?_
                  refine tl_skip rfl rfl rfl rfl ?_
                  refine tl_step rfl (oj_val (y_pickt (fe_t rfl) fe_c) ?_)
                  refine tl_nil ?_
                  refine tx_then ?_
                  exfalso; omega
              · try (exfalso; omega)
                all_goals
                  refine tl_want rfl rfl rfl (oj_val (y_fieldAddr (td := 3) Try.underlying33 rfl rfl Try.sizeOf3 (o' := 1) rfl (fe_t rfl)) ?_)
                  refine tl_want rfl rfl rfl (oj_val (y_ldb 4 Try.isAgg3 (fe_t rfl) rfl rfl) ?_)
                  refine tl_want rfl rfl rfl (oj_val (y_fieldAddr (td := 3) Try.underlying33 rfl rfl Try.sizeOf3 (o' := 1) rfl (fe_t rfl)) ?_)
                  refine tl_want rfl rfl rfl (oj_val (y_ldb 3 Try.isAgg3 (fe_t rfl) rfl rfl) ?_)
                  refine tl_want rfl rfl rfl (oj_val (y_neq (fe_t rfl) (fe_t rfl)) ?_)
                  refine tl_step rfl (oj_val (y_pickf (fe_t rfl) (fe_t rfl)) ?_)
                  refine tl_nil ?_
                  refine tx_then ?_
                  refine tr_condp (fe_t rfl) (fun hq25 => ?_) (fun hq26 => ?_)
                  · exfalso; omega
                  · try (exfalso; omega)
                    all_goals
                      refine tr_skip ?_
                      refine tx_then ?_
                      refine tr_seq ?_
                      refine tr_region ?_
                      refine tl_step rfl (oj_val (y_fieldAddr (td := 3) Try.underlying33 rfl rfl Try.sizeOf3 (o' := 0) rfl (fe_t rfl)) ?_)
                      refine tl_step rfl (oj_val (y_ldb 4 Try.isAgg3 (fe_t rfl) rfl rfl) ?_)
                      refine tl_step rfl (oj_val (y_fieldAddr (td := 3) Try.underlying33 rfl rfl Try.sizeOf3 (o' := 1) rfl (fe_t rfl)) ?_)
                      refine tl_step rfl (oj_val (y_ldb 4 Try.isAgg3 (fe_t rfl) rfl rfl) ?_)
                      refine tl_step rfl (oj_val ((fun {u0 u1} hx hb => y_build (is := [0, 1]) (vs := [u0, u1]) (cs := [u0, u1, .slice none 0 0]) rfl hx hb) (fel_cons (fe_t rfl) (fel_cons (fe_t rfl) fel_nil)) (by kernel_rfl)) ?_)
                      refine tl_step rfl (oj_alloc Try.zeroValue33 (fun wb => ?_))
                      refine tl_step rfl (oj_storeW 0 Try.sizeOf33 (fe_t rfl) (fe_t rfl) rfl rfl rfl rfl rfl (?_))
                      refine tl_nil ?_
                      refine tx_then ?_
                      refine tr_seq ?_
                      refine tr_region ?_
                      refine tl_step rfl (oj_val (y_assign fe_c) ?_)
                      refine tl_nil ?_
                      refine tx_then ?_
                      refine tr_seq ?_
                      refine tr_seq ?_
                      refine tr_region ?_
                      refine tl_step rfl (oj_val (y_fieldAddr (td := 31) Try.underlying33 rfl rfl Try.sizeOf31 (o' := 2) rfl (fe_t rfl)) ?_)
                      refine tl_step rfl (oj_val (y_ldb 5 Try.isAgg31 (fe_t rfl) rfl rfl) ?_)
                      refine tl_step rfl (oj_val (y_len Try.underlying31 (fe_t rfl)) ?_)
                      refine tl_step rfl (oj_val (y_move fe_c) ?_)
                      refine tl_nil ?_
                      refine tx_then ?_
                      refine tr_block ?_
                      refine tr_add (r := vec 3 1 (.slice none 0 0) 0 []) vec_nil rfl ?_
                      refine tr_loop3 [14, 15, 101, 102, 103, 104, 105, 106, 107, 108, 109, 110, 111, 112, 113, 114, 115, 116, 117, 118, 119, 120, 121, 122, 123, 124, 125, 126, 127, 128, 129, 130, 131, 132, 133, 134, 135] (fun (k : Nat) (fb : Bool) (s1 : Vs) => [(101, .int .i64 (k : Int)), (14, .bool fb)]) 0 (fun (k : Nat) (fb : Bool) (s1 : Vs) => [(1, blk wb [.int .i64 r1, .int .i64 x1, .slice s1.A s1.n s1.c]), (0, vec 3 1 (.slice s1.A s1.n s1.c) s1.n s1.xs)]) (fun (k : Nat) (fb : Bool) (s1 : Vs) => k ≤ n ∧ fb = ((sums za zb).take k).any (fun n => decide (1099511627776 < n)) ∧ s1.n = k ∧ s1.xs = cI ((sums za zb).take k)) (fun (k : Nat) (fb : Bool) (s1 : Vs) => n - k) (0) (false) (⟨none, 0, 0, []⟩ : Vs) (cov_cons (by first | rfl | exact v_int (by omega) | exact v_bool (by simp [*])) (cov_cons (by first | rfl | exact v_int (by omega) | exact v_bool (by simp [*])) (cov_nil))) (fun w h => h) ?_ ?_
                      · try dsimp only
                        simp [cI]
                      intro k fb s1 hp
                      obtain ⟨hk, hfb, hs1n, hs1x⟩ := hp
                      refine tr_seq ?_
                      refine tr_region ?_
                      refine tl_step rfl (oj_val (y_lss (fe_t rfl) (fe_t rfl)) ?_)
                      refine tl_nil ?_
                      refine tx_then ?_
                      refine tr_seq ?_
                      refine tr_condp (fe_t rfl) (fun hq27 => ?_) (fun hq28 => ?_)
                      · try (exfalso; omega)
                        all_goals
                          refine tr_skip ?_
                          refine tx_then ?_
                          refine tr_seq ?_
                          refine tr_block ?_
                          refine tr_seq ?_
                          refine tr_region ?_
                          refine tl_step rfl (oj_val (y_move (fe_t rfl)) ?_)
                          refine tl_step rfl (oj_val (y_assign (fe_t rfl)) ?_)
                          refine tl_nil ?_
                          refine tx_then ?_
                          refine tr_seq ?_
                          have hza := good_cells va k (by omega)
                          have hzb := good_cells vb k (by omega)
                          refine tr_draw (sel _ [2, 3, 4, 5, 6]) (fun w h => h.sel _ rfl (by decide)) rfl ?_
                          refine ta_float (i := 0) rfl (by kernel_rfl) (wants_none rfl) (yq_of (y_fieldAddr (td := 31) Try.underlying33 rfl rfl Try.sizeOf31 (o' := 2) rfl (fe_t rfl))) ?_
                          refine ta_float (i := 2) rfl (by kernel_rfl) (wants_none rfl) (yq_of (y_fieldAddr (td := 31) Try.underlying33 rfl rfl Try.sizeOf31 (o' := 2) rfl (fe_t rfl))) ?_
                          refine ta_float (i := 3) rfl (by kernel_rfl) (wants_none rfl) (yq_of (y_ldb 4 Try.isAgg31 (fe_t rfl) rfl rfl)) ?_
                          refine ta_float (i := 4) rfl (by kernel_rfl) (wants_none rfl) (yq_of (y_move (fe_t rfl))) ?_
                          refine ta_float (i := 5) rfl (by kernel_rfl) (wants_none rfl) (yq_of (y_index Try.underlying31 Try.sizeOf3 (fe_t rfl) (fe_t rfl) (rdl_out hr) (by first | (simp; done) | (simp; omega)) (by decide) (by omega) (Nat.mul_one _))) ?_
                          refine ta_float (i := 6) rfl (by kernel_rfl) (wants_none rfl) (yq_of (y_ld Try.isAgg3 (fe_t rfl) (rdl_out hr) (getI (by omega)))) ?_
                          refine ta_float (i := 7) rfl (by kernel_rfl) (wants_none rfl) (yq_of (y_fieldAddr (td := 31) Try.underlying33 rfl rfl Try.sizeOf31 (o' := 2) rfl (fe_t rfl))) ?_
                          refine ta_float (i := 8) rfl (by kernel_rfl) (wants_none rfl) (yq_of (y_ldb 3 Try.isAgg31 (fe_t rfl) rfl rfl)) ?_
                          refine ta_float (i := 9) rfl (by kernel_rfl) (wants_none rfl) (yq_of (y_move (fe_t rfl))) ?_
                          refine ta_float (i := 10) rfl (by kernel_rfl) (wants_none rfl) (yq_of (y_index Try.underlying31 Try.sizeOf3 (fe_t rfl) (fe_t rfl) (rdl_out hr') (by first | (simp; done) | (simp; omega)) (by decide) (by omega) (Nat.mul_one _))) ?_
                          refine ta_float (i := 11) rfl (by kernel_rfl) (wants_none rfl) (yq_of (y_ld Try.isAgg3 (fe_t rfl) (rdl_out hr') (getI (by omega)))) ?_
                          refine ta_float (i := 12) rfl (by kernel_rfl) (wants_none rfl) (yq_of (y_add (fe_t rfl) (fe_t rfl) (by omega))) ?_
                          refine ta_two (i := 1) (j := 13) rfl rfl (by kernel_rfl) (wants_none rfl) (wants_none rfl) ?_ ?_
                          · refine oj_val (y_ldb 1 Try.isAgg31 (fe_t rfl) rfl rfl) (⟨fun w h => h.pick [2, 3, 4, 5, 6] _ rfl (by decide), ?_⟩)
                            refine ta_one (i := 13) rfl (by kernel_rfl) (wants_none rfl) (oj_slice1 Try.underlying31 Try.sizeOf3 Try.zeroValue3 (fe_t rfl) (by decide) rfl (fun b7 => ⟨fun w h => h.pick [3, 4, 5, 6, 7] _ rfl (by decide), ?_⟩))
                            refine ta_one (i := 14) rfl (by kernel_rfl) (wants_none rfl) (oj_append (i := 1) (s := 1) (z := (.int .i64 0)) (bytes := 8) Try.underlying31 (by kernel_rfl) (fe_t rfl) (fe_t rfl) rfl (rdl_blk 0 rfl) rfl (by decide) (by first | exact oneI | exact oneF (fun _ => rfl) | exact fun u hu => List.all_eq_true.1 (show List.all _ (fun x => x.oneCell') = true from rfl) u hu | (intro u hu; revert u hu; simp [Value.oneCell'])) (by decide) ⟨by omega, by decide⟩ (fun Aa3 ca3 hca3 => ⟨fun w h => h.pick [3, 4, 5, 6, 7] _ rfl (by decide), ?_⟩))
                            refine ta_float (i := 15) rfl (by kernel_rfl) (wants_none rfl) (yq_of (y_fieldAddr (td := 31) Try.underlying33 rfl rfl Try.sizeOf31 (o' := 2) rfl (fe_t rfl))) ?_
                            refine ta_one (i := 16) rfl (by kernel_rfl) (wants_none rfl) (oj_store1 2 Try.sizeOf31 (fe_t rfl) (fe_t rfl) rfl rfl rfl rfl (⟨fun w h => h.pick [3, 4, 5, 6, 7] _ rfl (by decide), ?_⟩))
                            refine ta_done (by kernel_rfl) ?_
                            refine tx_then ?_
                            refine tr_draw (sel _ [0, 1, 2, 3, 4, 5, 6, 7]) (fun w h => h.sel _ rfl (by decide)) rfl ?_
                            refine ta_float (i := 0) rfl (by kernel_rfl) (wants_none rfl) (yq_of (y_move (fe_t rfl))) ?_
                            refine ta_float (i := 1) rfl (by kernel_rfl) (wants_none rfl) (yq_of (y_move (fe_t rfl))) ?_
                            refine ta_split (d := 121) rfl (fun hq29 => ?_) (fun hq30 => ?_)
                            · try (exfalso; omega)
                              all_goals
                                refine ta_skip (i := 2) rfl (by kernel_rfl) (wants_f rfl rfl rfl rfl) ?_
                                refine ta_skip (i := 3) rfl (by kernel_rfl) (wants_f rfl rfl rfl rfl) ?_
                                refine ta_skip (i := 4) rfl (by kernel_rfl) (wants_f rfl rfl rfl rfl) ?_
                                refine ta_skip (i := 5) rfl (by kernel_rfl) (wants_f rfl rfl rfl rfl) ?_
                                refine ta_skip (i := 6) rfl (by kernel_rfl) (wants_f rfl rfl rfl rfl) ?_
                                refine ta_skip (i := 7) rfl (by kernel_rfl) (wants_f rfl rfl rfl rfl) ?_
                                refine ta_skip (i := 8) rfl (by kernel_rfl) (wants_f rfl rfl rfl rfl) ?_
                                refine ta_skip (i := 9) rfl (by kernel_rfl) (wants_f rfl rfl rfl rfl) ?_
                                refine ta_skip (i := 10) rfl (by kernel_rfl) (wants_f rfl rfl rfl rfl) ?_
                                refine ta_skip (i := 11) rfl (by kernel_rfl) (wants_f rfl rfl rfl rfl) ?_
                                refine ta_skip (i := 12) rfl (by kernel_rfl) (wants_f rfl rfl rfl rfl) ?_
                                refine ta_skip (i := 13) rfl (by kernel_rfl) (wants_f rfl rfl rfl rfl) ?_
                                refine ta_float (i := 14) rfl (by kernel_rfl) (wants_none rfl) (yq_of (y_pickt (fe_t rfl) fe_c)) ?_
                                refine ta_float (i := 15) rfl (by kernel_rfl) (wants_none rfl) (yq_of (y_assign (fe_t rfl))) ?_
                                refine ta_done (by kernel_rfl) ?_
                                refine tx_in ?_
                                refine tx_then ?_
                                refine tr_region ?_
                                refine tl_step rfl (oj_val (y_inc (fe_t rfl) fe_c (by omega)) ?_)
                                refine tl_step rfl (oj_val (y_move (fe_t rfl)) ?_)
                                refine tl_nil ?_
                                apply tx_back3 (k + 1) (true) ((⟨_, _, _, _⟩ : Vs))
                                · exact (cov_cons (by first | rfl | exact v_int (by omega) | exact v_bool (by simp [*])) (cov_cons (by first | rfl | exact v_int (by omega) | exact v_bool (by simp [*])) (cov_nil)))
                                · repeat (first | exact over_nil | refine over_put rfl ?_ | refine over_drop rfl ?_)
                                · exact fun w h => h.pick [1, 2, 3, 4, 5, 6, 7] _ rfl (by decide)
                                · have hsg := sums_get (a := za) (b := zb) (k := k) (by omega) (by omega)
                                  have hlt : k < (sums za zb).length := by rw [sums_len (by omega)]; omega
                                  refine ⟨⟨by omega, ?_, by dsimp only; omega, ?_⟩, by omega⟩
                                  · rw [any_succ _ _ _ hlt, hsg, ← hfb]
                                    clear hfb hs1x
                                    simp [*]
                                  · dsimp only
                                    rw [hs1x, List.take_succ_eq_append_getElem hlt, cI, cI, List.map_append, hsg]
                                    rfl
                            · try (exfalso; omega)
                              all_goals
                                refine ta_float (i := 2) rfl (by kernel_rfl) (wants_t rfl rfl rfl) (yq_of (y_fieldAddr (td := 31) Try.underlying33 rfl rfl Try.sizeOf31 (o' := 2) rfl (fe_t rfl))) ?_
                                refine ta_float (i := 3) rfl (by kernel_rfl) (wants_t rfl rfl rfl) (yq_of (y_ldb 7 Try.isAgg31 (fe_t rfl) rfl rfl)) ?_
                                refine ta_float (i := 4) rfl (by kernel_rfl) (wants_t rfl rfl rfl) (yq_of (y_move (fe_t rfl))) ?_
                                refine ta_float (i := 5) rfl (by kernel_rfl) (wants_t rfl rfl rfl) (yq_of (y_index Try.underlying31 Try.sizeOf3 (fe_t rfl) (fe_t rfl) (rdl_out hr) (by first | (simp; done) | (simp; omega)) (by decide) (by omega) (Nat.mul_one _))) ?_
                                refine ta_float (i := 6) rfl (by kernel_rfl) (wants_t rfl rfl rfl) (yq_of (y_ld Try.isAgg3 (fe_t rfl) (rdl_out hr) (getI (by omega)))) ?_
                                refine ta_float (i := 7) rfl (by kernel_rfl) (wants_t rfl rfl rfl) (yq_of (y_fieldAddr (td := 31) Try.underlying33 rfl rfl Try.sizeOf31 (o' := 2) rfl (fe_t rfl))) ?_
                                refine ta_float (i := 8) rfl (by kernel_rfl) (wants_t rfl rfl rfl) (yq_of (y_ldb 6 Try.isAgg31 (fe_t rfl) rfl rfl)) ?_
                                refine ta_float (i := 9) rfl (by kernel_rfl) (wants_t rfl rfl rfl) (yq_of (y_move (fe_t rfl))) ?_
                                refine ta_float (i := 10) rfl (by kernel_rfl) (wants_t rfl rfl rfl) (yq_of (y_index Try.underlying31 Try.sizeOf3 (fe_t rfl) (fe_t rfl) (rdl_out hr') (by first | (simp; done) | (simp; omega)) (by decide) (by omega) (Nat.mul_one _))) ?_
                                refine ta_float (i := 11) rfl (by kernel_rfl) (wants_t rfl rfl rfl) (yq_of (y_ld Try.isAgg3 (fe_t rfl) (rdl_out hr') (getI (by omega)))) ?_
                                refine ta_float (i := 12) rfl (by kernel_rfl) (wants_t rfl rfl rfl) (yq_of (y_add (fe_t rfl) (fe_t rfl) (by omega))) ?_
                                refine ta_float (i := 13) rfl (by kernel_rfl) (wants_t rfl rfl rfl) (yq_of (y_gtr (fe_t rfl) fe_c)) ?_
                                refine ta_float (i := 14) rfl (by kernel_rfl) (wants_none rfl) (yq_of (y_pickf (fe_t rfl) (fe_t rfl))) ?_
                                refine ta_float (i := 15) rfl (by kernel_rfl) (wants_none rfl) (yq_of (y_assign (fe_t rfl))) ?_
                                refine ta_done (by kernel_rfl) ?_
                                refine tx_in ?_
                                refine tx_then ?_
                                refine tr_region ?_
                                refine tl_step rfl (oj_val (y_inc (fe_t rfl) fe_c (by omega)) ?_)
                                refine tl_step rfl (oj_val (y_move (fe_t rfl)) ?_)
                                refine tl_nil ?_
                                apply tx_back3 (k + 1) (_) ((⟨_, _, _, _⟩ : Vs))
                                · exact (cov_cons (by first | rfl | exact v_int (by omega) | exact v_bool (by simp [*])) (cov_cons (by first | rfl | exact v_int (by omega) | exact v_bool (by simp [*])) (cov_nil)))
                                · repeat (first | exact over_nil | refine over_put rfl ?_ | refine over_drop rfl ?_)
                                · exact fun w h => h.pick [1, 2, 3, 4, 5, 6, 7] _ rfl (by decide)
                                · have hsg := sums_get (a := za) (b := zb) (k := k) (by omega) (by omega)
                                  have hlt : k < (sums za zb).length := by rw [sums_len (by omega)]; omega
                                  refine ⟨⟨by omega, ?_, by dsimp only; omega, ?_⟩, by omega⟩
                                  · rw [any_succ _ _ _ hlt, hsg, ← hfb]
                                    clear hfb hs1x
                                    simp [*]
                                  · dsimp only
                                    rw [hs1x, List.take_succ_eq_append_getElem hlt, cI, cI, List.map_append, hsg]
                                    rfl
                          · refine oj_slice1 Try.underlying31 Try.sizeOf3 Try.zeroValue3 (fe_t rfl) (by decide) rfl (fun b8 => ⟨fun w h => h.pick [3, 4, 5, 6, 7] _ rfl (by decide), ?_⟩)
                            refine ta_one (i := 1) rfl (by kernel_rfl) (wants_none rfl) (oj_val (y_ldb 2 Try.isAgg31 (fe_t rfl) rfl rfl) (⟨fun w h => h.pick [3, 4, 5, 6, 7] _ rfl (by decide), ?_⟩))
                            refine ta_one (i := 14) rfl (by kernel_rfl) (wants_none rfl) (oj_append (i := 1) (s := 1) (z := (.int .i64 0)) (bytes := 8) Try.underlying31 (by kernel_rfl) (fe_t rfl) (fe_t rfl) rfl (rdl_blk 0 rfl) rfl (by decide) (by first | exact oneI | exact oneF (fun _ => rfl) | exact fun u hu => List.all_eq_true.1 (show List.all _ (fun x => x.oneCell') = true from rfl) u hu | (intro u hu; revert u hu; simp [Value.oneCell'])) (by decide) ⟨by omega, by decide⟩ (fun Aa4 ca4 hca4 => ⟨fun w h => h.pick [3, 4, 5, 6, 7] _ rfl (by decide), ?_⟩))
                            refine ta_float (i := 15) rfl (by kernel_rfl) (wants_none rfl) (yq_of (y_fieldAddr (td := 31) Try.underlying33 rfl rfl Try.sizeOf31 (o' := 2) rfl (fe_t rfl))) ?_
                            refine ta_one (i := 16) rfl (by kernel_rfl) (wants_none rfl) (oj_store1 2 Try.sizeOf31 (fe_t rfl) (fe_t rfl) rfl rfl rfl rfl (⟨fun w h => h.pick [3, 4, 5, 6, 7] _ rfl (by decide), ?_⟩))
                            refine ta_done (by kernel_rfl) ?_
                            refine tx_then ?_
                            refine tr_draw (sel _ [0, 1, 2, 3, 4, 5, 6, 7]) (fun w h => h.sel _ rfl (by decide)) rfl ?_
                            refine ta_float (i := 0) rfl (by kernel_rfl) (wants_none rfl) (yq_of (y_move (fe_t rfl))) ?_
                            refine ta_float (i := 1) rfl (by kernel_rfl) (wants_none rfl) (yq_of (y_move (fe_t rfl))) ?_
                            refine ta_split (d := 121) rfl (fun hq31 => ?_) (fun hq32 => ?_)
                            · try (exfalso; omega)
                              all_goals
                                refine ta_skip (i := 2) rfl (by kernel_rfl) (wants_f rfl rfl rfl rfl) ?_
                                refine ta_skip (i := 3) rfl (by kernel_rfl) (wants_f rfl rfl rfl rfl) ?_
                                refine ta_skip (i := 4) rfl (by kernel_rfl) (wants_f rfl rfl rfl rfl) ?_
                                refine ta_skip (i := 5) rfl (by kernel_rfl) (wants_f rfl rfl rfl rfl) ?_
                                refine ta_skip (i := 6) rfl (by kernel_rfl) (wants_f rfl rfl rfl rfl) ?_
                                refine ta_skip (i := 7) rfl (by kernel_rfl) (wants_f rfl rfl rfl rfl) ?_
                                refine ta_skip (i := 8) rfl (by kernel_rfl) (wants_f rfl rfl rfl rfl) ?_
                                refine ta_skip (i := 9) rfl (by kernel_rfl) (wants_f rfl rfl rfl rfl) ?_
                                refine ta_skip (i := 10) rfl (by kernel_rfl) (wants_f rfl rfl rfl rfl) ?_
                                refine ta_skip (i := 11) rfl (by kernel_rfl) (wants_f rfl rfl rfl rfl) ?_
                                refine ta_skip (i := 12) rfl (by kernel_rfl) (wants_f rfl rfl rfl rfl) ?_
                                refine ta_skip (i := 13) rfl (by kernel_rfl) (wants_f rfl rfl rfl rfl) ?_
                                refine ta_float (i := 14) rfl (by kernel_rfl) (wants_none rfl) (yq_of (y_pickt (fe_t rfl) fe_c)) ?_
                                refine ta_float (i := 15) rfl (by kernel_rfl) (wants_none rfl) (yq_of (y_assign (fe_t rfl))) ?_
                                refine ta_done (by kernel_rfl) ?_
                                refine tx_in ?_
                                refine tx_then ?_
                                refine tr_region ?_
                                refine tl_step rfl (oj_val (y_inc (fe_t rfl) fe_c (by omega)) ?_)
                                refine tl_step rfl (oj_val (y_move (fe_t rfl)) ?_)
                                refine tl_nil ?_
                                apply tx_back3 (k + 1) (true) ((⟨_, _, _, _⟩ : Vs))
                                · exact (cov_cons (by first | rfl | exact v_int (by omega) | exact v_bool (by simp [*])) (cov_cons (by first | rfl | exact v_int (by omega) | exact v_bool (by simp [*])) (cov_nil)))
                                · repeat (first | exact over_nil | refine over_put rfl ?_ | refine over_drop rfl ?_)
                                · exact fun w h => h.pick [1, 2, 3, 4, 5, 6, 7] _ rfl (by decide)
                                · have hsg := sums_get (a := za) (b := zb) (k := k) (by omega) (by omega)
                                  have hlt : k < (sums za zb).length := by rw [sums_len (by omega)]; omega
                                  refine ⟨⟨by omega, ?_, by dsimp only; omega, ?_⟩, by omega⟩
                                  · rw [any_succ _ _ _ hlt, hsg, ← hfb]
                                    clear hfb hs1x
                                    simp [*]
                                  · dsimp only
                                    rw [hs1x, List.take_succ_eq_append_getElem hlt, cI, cI, List.map_append, hsg]
                                    rfl
                            · try (exfalso; omega)
                              all_goals
                                refine ta_float (i := 2) rfl (by kernel_rfl) (wants_t rfl rfl rfl) (yq_of (y_fieldAddr (td := 31) Try.underlying33 rfl rfl Try.sizeOf31 (o' := 2) rfl (fe_t rfl))) ?_
                                refine ta_float (i := 3) rfl (by kernel_rfl) (wants_t rfl rfl rfl) (yq_of (y_ldb 7 Try.isAgg31 (fe_t rfl) rfl rfl)) ?_
                                refine ta_float (i := 4) rfl (by kernel_rfl) (wants_t rfl rfl rfl) (yq_of (y_move (fe_t rfl))) ?_
                                refine ta_float (i := 5) rfl (by kernel_rfl) (wants_t rfl rfl rfl) (yq_of (y_index Try.underlying31 Try.sizeOf3 (fe_t rfl) (fe_t rfl) (rdl_out hr) (by first | (simp; done) | (simp; omega)) (by decide) (by omega) (Nat.mul_one _))) ?_
                                refine ta_float (i := 6) rfl (by kernel_rfl) (wants_t rfl rfl rfl) (yq_of (y_ld Try.isAgg3 (fe_t rfl) (rdl_out hr) (getI (by omega)))) ?_
                                refine ta_float (i := 7) rfl (by kernel_rfl) (wants_t rfl rfl rfl) (yq_of (y_fieldAddr (td := 31) Try.underlying33 rfl rfl Try.sizeOf31 (o' := 2) rfl (fe_t rfl))) ?_
                                refine ta_float (i := 8) rfl (by kernel_rfl) (wants_t rfl rfl rfl) (yq_of (y_ldb 6 Try.isAgg31 (fe_t rfl) rfl rfl)) ?_
                                refine ta_float (i := 9) rfl (by kernel_rfl) (wants_t rfl rfl rfl) (yq_of (y_move (fe_t rfl))) ?_
                                refine ta_float (i := 10) rfl (by kernel_rfl) (wants_t rfl rfl rfl) (yq_of (y_index Try.underlying31 Try.sizeOf3 (fe_t rfl) (fe_t rfl) (rdl_out hr') (by first | (simp; done) | (simp; omega)) (by decide) (by omega) (Nat.mul_one _))) ?_
                                refine ta_float (i := 11) rfl (by kernel_rfl) (wants_t rfl rfl rfl) (yq_of (y_ld Try.isAgg3 (fe_t rfl) (rdl_out hr') (getI (by omega)))) ?_
                                refine ta_float (i := 12) rfl (by kernel_rfl) (wants_t rfl rfl rfl) (yq_of (y_add (fe_t rfl) (fe_t rfl) (by omega))) ?_
                                refine ta_float (i := 13) rfl (by kernel_rfl) (wants_t rfl rfl rfl) (yq_of (y_gtr (fe_t rfl) fe_c)) ?_
                                refine ta_float (i := 14) rfl (by kernel_rfl) (wants_none rfl) (yq_of (y_pickf (fe_t rfl) (fe_t rfl))) ?_
                                refine ta_float (i := 15) rfl (by kernel_rfl) (wants_none rfl) (yq_of (y_assign (fe_t rfl))) ?_
                                refine ta_done (by kernel_rfl) ?_
                                refine tx_in ?_
                                refine tx_then ?_
                                refine tr_region ?_
                                refine tl_step rfl (oj_val (y_inc (fe_t rfl) fe_c (by omega)) ?_)
                                refine tl_step rfl (oj_val (y_move (fe_t rfl)) ?_)
                                refine tl_nil ?_
                                apply tx_back3 (k + 1) (_) ((⟨_, _, _, _⟩ : Vs))
                                · exact (cov_cons (by first | rfl | exact v_int (by omega) | exact v_bool (by simp [*])) (cov_cons (by first | rfl | exact v_int (by omega) | exact v_bool (by simp [*])) (cov_nil)))
                                · repeat (first | exact over_nil | refine over_put rfl ?_ | refine over_drop rfl ?_)
                                · exact fun w h => h.pick [1, 2, 3, 4, 5, 6, 7] _ rfl (by decide)
                                · have hsg := sums_get (a := za) (b := zb) (k := k) (by omega) (by omega)
                                  have hlt : k < (sums za zb).length := by rw [sums_len (by omega)]; omega
                                  refine ⟨⟨by omega, ?_, by dsimp only; omega, ?_⟩, by omega⟩
                                  · rw [any_succ _ _ _ hlt, hsg, ← hfb]
                                    clear hfb hs1x
                                    simp [*]
                                  · dsimp only
                                    rw [hs1x, List.take_succ_eq_append_getElem hlt, cI, cI, List.map_append, hsg]
                                    rfl
                      · try (exfalso; omega)
                        all_goals
                          refine tr_exit ?_
                          refine tx_then_exit ?_
                          refine tx_then_exit ?_
                          refine tx_in_exit ?_
                          refine tx_then ?_
                          refine tr_seq ?_
                          refine tr_seq ?_
                          refine tr_region ?_
                          refine tl_step rfl (oj_val (y_move (fe_t rfl)) ?_)
                          refine tl_nil ?_
                          refine tx_then ?_
                          refine tr_cond (fe_t rfl) (fun hq33 => ?_) (fun hq34 => ?_)
                          · exfalso; rw [hfb, List.take_of_length_le (by rw [sums_len (by omega)]; omega)] at hq33; rw [full] at hf; rw [hf] at hq33; cases hq33
                          · try (exfalso; omega)
                            all_goals
                              refine tr_skip ?_
                              refine tx_then ?_
                              refine tr_seq ?_
                              refine tr_region ?_
                              refine tl_step rfl (oj_val (y_move (fe_t rfl)) ?_)
                              refine tl_step rfl (oj_val (y_eq (fe_t rfl) fe_c) ?_)
                              refine tl_step rfl (oj_val (y_move (fe_t rfl)) ?_)
                              refine tl_splitp (d := 146) rfl (fun hq35 => ?_) (fun hq36 => ?_)
                              · try (exfalso; omega)
                                all_goals
                                  refine tl_want rfl rfl rfl (oj_val (y_ldbA 2 Try.isAgg33 Try.sizeOf33 (fe_t rfl) rfl rfl rfl) ?_)
                                  refine tl_want rfl rfl rfl (oj_val (y_ldbA 1 Try.isAgg33 Try.sizeOf33 (fe_t rfl) rfl rfl rfl) ?_)
                                  refine tl_want rfl rfl rfl (oj_callv Try.call21 fe_f (fel_cons (fe_t rfl) (fel_cons (fe_t rfl) fel_nil)) (fun w' hS => same_eq r1 x1 q.1 s1.A za.length s1.n q.2 s1.c (sums za zb) w' (OwnV.rd (hS.holds 3 _ rfl)).2.2 (by have h := (OwnV.rd (hS.holds 0 _ rfl)).2.2; rw [hs1x, List.take_of_length_le (by rw [sums_len (by omega)]; omega)] at h; exact h) (by rw [sums_len (by omega)]) (by omega) (by omega)) ?_)
                                  refine tl_step rfl (oj_val (y_pickt (fe_t rfl) (fe_t rfl)) ?_)
                                  refine tl_step rfl (oj_val (y_assign (fe_t rfl)) ?_)
                                  refine tl_nil ?_
                                  refine tx_then ?_
                                  refine tr_ret ?_
                                  refine tx_ret (res1 Try.results4 (rok_t rfl)) (fun w' hS => ?_)
                                  exact ⟨ret_bool (by first | rfl | (simp; done)), hS.pick [] _ rfl (by decide)⟩
                              · try (exfalso; omega)
                                all_goals
                                  refine tl_skip rfl rfl rfl rfl ?_
                                  refine tl_skip rfl rfl rfl rfl ?_
                                  refine tl_skip rfl rfl rfl rfl ?_
                                  refine tl_step rfl (oj_val (y_pickf (fe_t rfl) fe_c) ?_)
                                  refine tl_step rfl (oj_val (y_assign (fe_t rfl)) ?_)
                                  refine tl_nil ?_
                                  refine tx_then ?_
                                  refine tr_ret ?_
                                  refine tx_ret (res1 Try.results4 (rok_t rfl)) (fun w' hS => ?_)
                                  exact ⟨ret_bool (by first | rfl | (simp; done)), hS.pick [] _ rfl (by decide)⟩
      · try (exfalso; omega)
        all_goals
          refine tl_want rfl rfl rfl (oj_val (y_move (fe_t rfl)) ?_)
          refine tl_want rfl rfl rfl (oj_val (y_lss (fe_t rfl) fe_c) ?_)
          refine tl_step rfl (oj_val (y_pickf (fe_t rfl) (fe_t rfl)) ?_)
          refine tl_step rfl (oj_val (y_move (fe_t rfl)) ?_)
          refine tl_splitp (d := 38) rfl (fun hq37 => ?_) (fun hq38 => ?_)
          · try (exfalso; omega)
            all_goals
              refine tl_skip rfl rfl rfl rfl ?_
              refine tl_skip rfl rfl rfl rfl ?_
              refine tl_step rfl (oj_val (y_pickt (fe_t rfl) fe_c) ?_)
              refine tl_nil ?_
              refine tx_then ?_
              refine tr_condt (fe_t rfl) ?_
              refine tr_seq ?_
              refine tr_region ?_
              refine tl_step rfl (oj_val (y_move (fe_t rfl)) ?_)
              refine tl_step rfl (oj_val (y_neq (fe_t rfl) fe_c) ?_)
              refine tl_step rfl (oj_val (y_move (fe_t rfl)) ?_)
              refine tl_splitp (d := 44) rfl (fun hq39 => ?_) (fun hq40 => ?_)
              · try (exfalso; omega)
                all_goals
                  refine tl_skip rfl rfl rfl rfl ?_
                  refine tl_skip rfl rfl rfl rfl ?_
                  refine tl_skip rfl rfl rfl rfl ?_
                  refine tl_skip rfl rfl rfl rfl ?_
                  refine tl_step rfl (oj_val (y_pickt (fe_t rfl) fe_c) ?_)
                  refine tl_nil ?_
                  refine tx_then ?_
                  exfalso; omega
              · try (exfalso; omega)
                all_goals
                  refine tl_want rfl rfl rfl (oj_val (y_ldbA 2 Try.isAgg33 Try.sizeOf33 (fe_t rfl) rfl rfl rfl) ?_)
                  refine tl_want rfl rfl rfl (oj_val (y_build (is := []) (vs := []) (cs := [.int .i64 0, .int .i64 0, .slice none 0 0]) rfl fel_nil (by kernel_rfl)) ?_)
                  refine tl_want rfl rfl rfl (oj_callv Try.call21 fe_f (fel_cons (fe_t rfl) (fel_cons (fe_t rfl) fel_nil)) (fun w' hS => of_bel (same_any 0 0 none none 0 0 0 [] w' Rd.nil Rd.nil rfl (by omega))) ?_)
                  refine tl_want rfl rfl rfl (oj_val (y_not (fe_t rfl)) ?_)
                  refine tl_step rfl (oj_val (y_pickf (fe_t rfl) (fe_t rfl)) ?_)
                  refine tl_nil ?_
                  refine tx_then ?_
                  refine tr_condf (fe_t rfl) ?_
                  refine tr_skip ?_
                  refine tx_then ?_
                  refine tr_seq ?_
                  refine tr_seq ?_
                  refine tr_region ?_
                  refine tl_step rfl (oj_val (y_ldbA 4 Try.isAgg33 Try.sizeOf33 (fe_t rfl) rfl rfl rfl) ?_)
                  refine tl_step rfl (oj_callv Try.call22 fe_f (fel_cons (fe_t rfl) fel_nil) (fun w' hS => of_bel (vright_yes A n c w' (Rd.below hr hS.below) hn (by omega) va)) ?_)
                  refine tl_step rfl (oj_val (y_not (fe_t rfl)) ?_)
                  refine tl_step rfl (oj_val (y_move (fe_t rfl)) ?_)
                  refine tl_want rfl rfl rfl (oj_val (y_ldbA 3 Try.isAgg33 Try.sizeOf33 (fe_t rfl) rfl rfl rfl) ?_)
                  refine tl_want rfl rfl rfl (oj_callv Try.call22 fe_f (fel_cons (fe_t rfl) fel_nil) (fun w' hS => of_bel (vright_yes B n d w' (Rd.below hr' hS.below) hm (by omega) vb)) ?_)
                  refine tl_want rfl rfl rfl (oj_val (y_not (fe_t rfl)) ?_)
                  refine tl_step rfl (oj_val (y_pickf (fe_t rfl) (fe_t rfl)) ?_)
                  refine tl_step rfl (oj_val (y_move (fe_t rfl)) ?_)
                  refine tl_want rfl rfl rfl (oj_val (y_fieldAddr (td := 3) Try.underlying33 rfl rfl Try.sizeOf3 (o' := 0) rfl (fe_t rfl)) ?_)
                  refine tl_want rfl rfl rfl (oj_val (y_ldb 4 Try.isAgg3 (fe_t rfl) rfl rfl) ?_)
                  refine tl_want rfl rfl rfl (oj_val (y_fieldAddr (td := 3) Try.underlying33 rfl rfl Try.sizeOf3 (o' := 0) rfl (fe_t rfl)) ?_)
                  refine tl_want rfl rfl rfl (oj_val (y_ldb 3 Try.isAgg3 (fe_t rfl) rfl rfl) ?_)
                  refine tl_want rfl rfl rfl (oj_val (y_neq (fe_t rfl) (fe_t rfl)) ?_)
                  refine tl_step rfl (oj_val (y_pickf (fe_t rfl) (fe_t rfl)) ?_)
                  refine tl_step rfl (oj_val (y_move (fe_t rfl)) ?_)
                  refine tl_splitp (d := 79) rfl (fun hq41 => ?_) (fun hq42 => ?_)
                  · try (exfalso; omega)
                    all_goals
                      refine tl_skip rfl rfl rfl rfl ?_
                      refine tl_skip rfl rfl rfl rfl ?_
                      refine tl_skip rfl rfl rfl rfl ?_
                      refine tl_skip rfl rfl rfl rfl ?_
                      refine tl_skip rfl rfl rfl rfl ?_
                      refine tl_step rfl (oj_val (y_pickt (fe_t rfl) fe_c) ?_)
                      refine tl_nil ?_
                      refine tx_then ?_
                      exfalso; omega
                  · try (exfalso; omega)
                    all_goals
                      refine tl_want rfl rfl rfl (oj_val (y_fieldAddr (td := 3) Try.underlying33 rfl rfl Try.sizeOf3 (o' := 1) rfl (fe_t rfl)) ?_)
                      refine tl_want rfl rfl rfl (oj_val (y_ldb 4 Try.isAgg3 (fe_t rfl) rfl rfl) ?_)
                      refine tl_want rfl rfl rfl (oj_val (y_fieldAddr (td := 3) Try.underlying33 rfl rfl Try.sizeOf3 (o' := 1) rfl (fe_t rfl)) ?_)
                      refine tl_want rfl rfl rfl (oj_val (y_ldb 3 Try.isAgg3 (fe_t rfl) rfl rfl) ?_)
                      refine tl_want rfl rfl rfl (oj_val (y_neq (fe_t rfl) (fe_t rfl)) ?_)
                      refine tl_step rfl (oj_val (y_pickf (fe_t rfl) (fe_t rfl)) ?_)
                      refine tl_nil ?_
                      refine tx_then ?_
                      refine tr_condp (fe_t rfl) (fun hq43 => ?_) (fun hq44 => ?_)
                      · exfalso; omega
                      · try (exfalso; omega)
                        all_goals
                          refine tr_skip ?_
                          refine tx_then ?_
                          refine tr_seq ?_
                          refine tr_region ?_
                          refine tl_step rfl (oj_val (y_fieldAddr (td := 3) Try.underlying33 rfl rfl Try.sizeOf3 (o' := 0) rfl (fe_t rfl)) ?_)
                          refine tl_step rfl (oj_val (y_ldb 4 Try.isAgg3 (fe_t rfl) rfl rfl) ?_)
                          refine tl_step rfl (oj_val (y_fieldAddr (td := 3) Try.underlying33 rfl rfl Try.sizeOf3 (o' := 1) rfl (fe_t rfl)) ?_)
                          refine tl_step rfl (oj_val (y_ldb 4 Try.isAgg3 (fe_t rfl) rfl rfl) ?_)
                          refine tl_step rfl (oj_val ((fun {u0 u1} hx hb => y_build (is := [0, 1]) (vs := [u0, u1]) (cs := [u0, u1, .slice none 0 0]) rfl hx hb) (fel_cons (fe_t rfl) (fel_cons (fe_t rfl) fel_nil)) (by kernel_rfl)) ?_)
                          refine tl_step rfl (oj_alloc Try.zeroValue33 (fun wb => ?_))
                          refine tl_step rfl (oj_storeW 0 Try.sizeOf33 (fe_t rfl) (fe_t rfl) rfl rfl rfl rfl rfl (?_))
                          refine tl_nil ?_
                          refine tx_then ?_
                          refine tr_seq ?_
                          refine tr_region ?_
                          refine tl_step rfl (oj_val (y_assign fe_c) ?_)
                          refine tl_nil ?_
                          refine tx_then ?_
                          refine tr_seq ?_
                          refine tr_seq ?_
                          refine tr_region ?_
                          refine tl_step rfl (oj_val (y_fieldAddr (td := 31) Try.underlying33 rfl rfl Try.sizeOf31 (o' := 2) rfl (fe_t rfl)) ?_)
                          refine tl_step rfl (oj_val (y_ldb 5 Try.isAgg31 (fe_t rfl) rfl rfl) ?_)
                          refine tl_step rfl (oj_val (y_len Try.underlying31 (fe_t rfl)) ?_)
                          refine tl_step rfl (oj_val (y_move fe_c) ?_)
                          refine tl_nil ?_
                          refine tx_then ?_
                          refine tr_block ?_
                          refine tr_add (r := vec 3 1 (.slice none 0 0) 0 []) vec_nil rfl ?_
                          refine tr_loop3 [14, 15, 101, 102, 103, 104, 105, 106, 107, 108, 109, 110, 111, 112, 113, 114, 115, 116, 117, 118, 119, 120, 121, 122, 123, 124, 125, 126, 127, 128, 129, 130, 131, 132, 133, 134, 135] (fun (k : Nat) (fb : Bool) (s1 : Vs) => [(101, .int .i64 (k : Int)), (14, .bool fb)]) 0 (fun (k : Nat) (fb : Bool) (s1 : Vs) => [(1, blk wb [.int .i64 r1, .int .i64 x1, .slice s1.A s1.n s1.c]), (0, vec 3 1 (.slice s1.A s1.n s1.c) s1.n s1.xs)]) (fun (k : Nat) (fb : Bool) (s1 : Vs) => k ≤ n ∧ fb = ((sums za zb).take k).any (fun n => decide (1099511627776 < n)) ∧ s1.n = k ∧ s1.xs = cI ((sums za zb).take k)) (fun (k : Nat) (fb : Bool) (s1 : Vs) => n - k) (0) (false) (⟨none, 0, 0, []⟩ : Vs) (cov_cons (by first | rfl | exact v_int (by omega) | exact v_bool (by simp [*])) (cov_cons (by first | rfl | exact v_int (by omega) | exact v_bool (by simp [*])) (cov_nil))) (fun w h => h) ?_ ?_
                          · try dsimp only
                            simp [cI]
                          intro k fb s1 hp
                          obtain ⟨hk, hfb, hs1n, hs1x⟩ := hp
                          refine tr_seq ?_
                          refine tr_region ?_
                          refine tl_step rfl (oj_val (y_lss (fe_t rfl) (fe_t rfl)) ?_)
                          refine tl_nil ?_
                          refine tx_then ?_
                          refine tr_seq ?_
                          refine tr_condp (fe_t rfl) (fun hq45 => ?_) (fun hq46 => ?_)
                          · try (exfalso; omega)
                            all_goals
                              refine tr_skip ?_
                              refine tx_then ?_
                              refine tr_seq ?_
                              refine tr_block ?_
                              refine tr_seq ?_
                              refine tr_region ?_
                              refine tl_step rfl (oj_val (y_move (fe_t rfl)) ?_)
                              refine tl_step rfl (oj_val (y_assign (fe_t rfl)) ?_)
                              refine tl_nil ?_
                              refine tx_then ?_
                              refine tr_seq ?_
                              have hza := good_cells va k (by omega)
                              have hzb := good_cells vb k (by omega)
                              refine tr_draw (sel _ [2, 3, 4, 5, 6]) (fun w h => h.sel _ rfl (by decide)) rfl ?_
                              refine ta_float (i := 0) rfl (by kernel_rfl) (wants_none rfl) (yq_of (y_fieldAddr (td := 31) Try.underlying33 rfl rfl Try.sizeOf31 (o' := 2) rfl (fe_t rfl))) ?_
                              refine ta_float (i := 2) rfl (by kernel_rfl) (wants_none rfl) (yq_of (y_fieldAddr (td := 31) Try.underlying33 rfl rfl Try.sizeOf31 (o' := 2) rfl (fe_t rfl))) ?_
                              refine ta_float (i := 3) rfl (by kernel_rfl) (wants_none rfl) (yq_of (y_ldb 4 Try.isAgg31 (fe_t rfl) rfl rfl)) ?_
                              refine ta_float (i := 4) rfl (by kernel_rfl) (wants_none rfl) (yq_of (y_move (fe_t rfl))) ?_
                              refine ta_float (i := 5) rfl (by kernel_rfl) (wants_none rfl) (yq_of (y_index Try.underlying31 Try.sizeOf3 (fe_t rfl) (fe_t rfl) (rdl_out hr) (by first | (simp; done) | (simp; omega)) (by decide) (by omega) (Nat.mul_one _))) ?_
                              refine ta_float (i := 6) rfl (by kernel_rfl) (wants_none rfl) (yq_of (y_ld Try.isAgg3 (fe_t rfl) (rdl_out hr) (getI (by omega)))) ?_
                              refine ta_float (i := 7) rfl (by kernel_rfl) (wants_none rfl) (yq_of (y_fieldAddr (td := 31) Try.underlying33 rfl rfl Try.sizeOf31 (o' := 2) rfl (fe_t rfl))) ?_
                              refine ta_float (i := 8) rfl (by kernel_rfl) (wants_none rfl) (yq_of (y_ldb 3 Try.isAgg31 (fe_t rfl) rfl rfl)) ?_
                              refine ta_float (i := 9) rfl (by kernel_rfl) (wants_none rfl) (yq_of (y_move (fe_t rfl))) ?_
                              refine ta_float (i := 10) rfl (by kernel_rfl) (wants_none rfl) (yq_of (y_index Try.underlying31 Try.sizeOf3 (fe_t rfl) (fe_t rfl) (rdl_out hr') (by first | (simp; done) | (simp; omega)) (by decide) (by omega) (Nat.mul_one _))) ?_
                              refine ta_float (i := 11) rfl (by kernel_rfl) (wants_none rfl) (yq_of (y_ld Try.isAgg3 (fe_t rfl) (rdl_out hr') (getI (by omega)))) ?_
                              refine ta_float (i := 12) rfl (by kernel_rfl) (wants_none rfl) (yq_of (y_add (fe_t rfl) (fe_t rfl) (by omega))) ?_
                              refine ta_two (i := 1) (j := 13) rfl rfl (by kernel_rfl) (wants_none rfl) (wants_none rfl) ?_ ?_
                              · refine oj_val (y_ldb 1 Try.isAgg31 (fe_t rfl) rfl rfl) (⟨fun w h => h.pick [2, 3, 4, 5, 6] _ rfl (by decide), ?_⟩)
                                refine ta_one (i := 13) rfl (by kernel_rfl) (wants_none rfl) (oj_slice1 Try.underlying31 Try.sizeOf3 Try.zeroValue3 (fe_t rfl) (by decide) rfl (fun b9 => ⟨fun w h => h.pick [3, 4, 5, 6, 7] _ rfl (by decide), ?_⟩))
                                refine ta_one (i := 14) rfl (by kernel_rfl) (wants_none rfl) (oj_append (i := 1) (s := 1) (z := (.int .i64 0)) (bytes := 8) Try.underlying31 (by kernel_rfl) (fe_t rfl) (fe_t rfl) rfl (rdl_blk 0 rfl) rfl (by decide) (by first | exact oneI | exact oneF (fun _ => rfl) | exact fun u hu => List.all_eq_true.1 (show List.all _ (fun x => x.oneCell') = true from rfl) u hu | (intro u hu; revert u hu; simp [Value.oneCell'])) (by decide) ⟨by omega, by decide⟩ (fun Aa5 ca5 hca5 => ⟨fun w h => h.pick [3, 4, 5, 6, 7] _ rfl (by decide), ?_⟩))
                                refine ta_float (i := 15) rfl (by kernel_rfl) (wants_none rfl) (yq_of (y_fieldAddr (td := 31) Try.underlying33 rfl rfl Try.sizeOf31 (o' := 2) rfl (fe_t rfl))) ?_
                                refine ta_one (i := 16) rfl (by kernel_rfl) (wants_none rfl) (oj_store1 2 Try.sizeOf31 (fe_t rfl) (fe_t rfl) rfl rfl rfl rfl (⟨fun w h => h.pick [3, 4, 5, 6, 7] _ rfl (by decide), ?_⟩))
                                refine ta_done (by kernel_rfl) ?_
                                refine tx_then ?_
                                refine tr_draw (sel _ [0, 1, 2, 3, 4, 5, 6, 7]) (fun w h => h.sel _ rfl (by decide)) rfl ?_
                                refine ta_float (i := 0) rfl (by kernel_rfl) (wants_none rfl) (yq_of (y_move (fe_t rfl))) ?_
                                refine ta_float (i := 1) rfl (by kernel_rfl) (wants_none rfl) (yq_of (y_move (fe_t rfl))) ?_
                                refine ta_split (d := 121) rfl (fun hq47 => ?_) (fun hq48 => ?_)
                                · try (exfalso; omega)
                                  all_goals
                                    refine ta_skip (i := 2) rfl (by kernel_rfl) (wants_f rfl rfl rfl rfl) ?_
                                    refine ta_skip (i := 3) rfl (by kernel_rfl) (wants_f rfl rfl rfl rfl) ?_
                                    refine ta_skip (i := 4) rfl (by kernel_rfl) (wants_f rfl rfl rfl rfl) ?_
                                    refine ta_skip (i := 5) rfl (by kernel_rfl) (wants_f rfl rfl rfl rfl) ?_
                                    refine ta_skip (i := 6) rfl (by kernel_rfl) (wants_f rfl rfl rfl rfl) ?_
                                    refine ta_skip (i := 7) rfl (by kernel_rfl) (wants_f rfl rfl rfl rfl) ?_
                                    refine ta_skip (i := 8) rfl (by kernel_rfl) (wants_f rfl rfl rfl rfl) ?_
                                    refine ta_skip (i := 9) rfl (by kernel_rfl) (wants_f rfl rfl rfl rfl) ?_
                                    refine ta_skip (i := 10) rfl (by kernel_rfl) (wants_f rfl rfl rfl rfl) ?_
                                    refine ta_skip (i := 11) rfl (by kernel_rfl) (wants_f rfl rfl rfl rfl) ?_
                                    refine ta_skip (i := 12) rfl (by kernel_rfl) (wants_f rfl rfl rfl rfl) ?_
                                    refine ta_skip (i := 13) rfl (by kernel_rfl) (wants_f rfl rfl rfl rfl) ?_
                                    refine ta_float (i := 14) rfl (by kernel_rfl) (wants_none rfl) (yq_of (y_pickt (fe_t rfl) fe_c)) ?_
                                    refine ta_float (i := 15) rfl (by kernel_rfl) (wants_none rfl) (yq_of (y_assign (fe_t rfl))) ?_
                                    refine ta_done (by kernel_rfl) ?_
                                    refine tx_in ?_
                                    refine tx_then ?_
                                    refine tr_region ?_
                                    refine tl_step rfl (oj_val (y_inc (fe_t rfl) fe_c (by omega)) ?_)
                                    refine tl_step rfl (oj_val (y_move (fe_t rfl)) ?_)
                                    refine tl_nil ?_
                                    apply tx_back3 (k + 1) (true) ((⟨_, _, _, _⟩ : Vs))
                                    · exact (cov_cons (by first | rfl | exact v_int (by omega) | exact v_bool (by simp [*])) (cov_cons (by first | rfl | exact v_int (by omega) | exact v_bool (by simp [*])) (cov_nil)))
                                    · repeat (first | exact over_nil | refine over_put rfl ?_ | refine over_drop rfl ?_)
                                    · exact fun w h => h.pick [1, 2, 3, 4, 5, 6, 7] _ rfl (by decide)
                                    · have hsg := sums_get (a := za) (b := zb) (k := k) (by omega) (by omega)
                                      have hlt : k < (sums za zb).length := by rw [sums_len (by omega)]; omega
                                      refine ⟨⟨by omega, ?_, by dsimp only; omega, ?_⟩, by omega⟩
                                      · rw [any_succ _ _ _ hlt, hsg, ← hfb]
                                        clear hfb hs1x
                                        simp [*]
                                      · dsimp only
                                        rw [hs1x, List.take_succ_eq_append_getElem hlt, cI, cI, List.map_append, hsg]
                                        rfl
                                · try (exfalso; omega)
                                  all_goals
                                    refine ta_float (i := 2) rfl (by kernel_rfl) (wants_t rfl rfl rfl) (yq_of (y_fieldAddr (td := 31) Try.underlying33 rfl rfl Try.sizeOf31 (o' := 2) rfl (fe_t rfl))) ?_
                                    refine ta_float (i := 3) rfl (by kernel_rfl) (wants_t rfl rfl rfl) (yq_of (y_ldb 7 Try.isAgg31 (fe_t rfl) rfl rfl)) ?_
                                    refine ta_float (i := 4) rfl (by kernel_rfl) (wants_t rfl rfl rfl) (yq_of (y_move (fe_t rfl))) ?_
                                    refine ta_float (i := 5) rfl (by kernel_rfl) (wants_t rfl rfl rfl) (yq_of (y_index Try.underlying31 Try.sizeOf3 (fe_t rfl) (fe_t rfl) (rdl_out hr) (by first | (simp; done) | (simp; omega)) (by decide) (by omega) (Nat.mul_one _))) ?_
                                    refine ta_float (i := 6) rfl (by kernel_rfl) (wants_t rfl rfl rfl) (yq_of (y_ld Try.isAgg3 (fe_t rfl) (rdl_out hr) (getI (by omega)))) ?_
                                    refine ta_float (i := 7) rfl (by kernel_rfl) (wants_t rfl rfl rfl) (yq_of (y_fieldAddr (td := 31) Try.underlying33 rfl rfl Try.sizeOf31 (o' := 2) rfl (fe_t rfl))) ?_
                                    refine ta_float (i := 8) rfl (by kernel_rfl) (wants_t rfl rfl rfl) (yq_of (y_ldb 6 Try.isAgg31 (fe_t rfl) rfl rfl)) ?_
                                    refine ta_float (i := 9) rfl (by kernel_rfl) (wants_t rfl rfl rfl) (yq_of (y_move (fe_t rfl))) ?_
                                    refine ta_float (i := 10) rfl (by kernel_rfl) (wants_t rfl rfl rfl) (yq_of (y_index Try.underlying31 Try.sizeOf3 (fe_t rfl) (fe_t rfl) (rdl_out hr') (by first | (simp; done) | (simp; omega)) (by decide) (by omega) (Nat.mul_one _))) ?_
                                    refine ta_float (i := 11) rfl (by kernel_rfl) (wants_t rfl rfl rfl) (yq_of (y_ld Try.isAgg3 (fe_t rfl) (rdl_out hr') (getI (by omega)))) ?_
                                    refine ta_float (i := 12) rfl (by kernel_rfl) (wants_t rfl rfl rfl) (yq_of (y_add (fe_t rfl) (fe_t rfl) (by omega))) ?_
                                    refine ta_float (i := 13) rfl (by kernel_rfl) (wants_t rfl rfl rfl) (yq_of (y_gtr (fe_t rfl) fe_c)) ?_
                                    refine ta_float (i := 14) rfl (by kernel_rfl) (wants_none rfl) (yq_of (y_pickf (fe_t rfl) (fe_t rfl))) ?_
                                    refine ta_float (i := 15) rfl (by kernel_rfl) (wants_none rfl) (yq_of (y_assign (fe_t rfl))) ?_
                                    refine ta_done (by kernel_rfl) ?_
                                    refine tx_in ?_
                                    refine tx_then ?_
                                    refine tr_region ?_
                                    refine tl_step rfl (oj_val (y_inc (fe_t rfl) fe_c (by omega)) ?_)
                                    refine tl_step rfl (oj_val (y_move (fe_t rfl)) ?_)
                                    refine tl_nil ?_
                                    apply tx_back3 (k + 1) (_) ((⟨_, _, _, _⟩ : Vs))
                                    · exact (cov_cons (by first | rfl | exact v_int (by omega) | exact v_bool (by simp [*])) (cov_cons (by first | rfl | exact v_int (by omega) | exact v_bool (by simp [*])) (cov_nil)))
                                    · repeat (first | exact over_nil | refine over_put rfl ?_ | refine over_drop rfl ?_)
                                    · exact fun w h => h.pick [1, 2, 3, 4, 5, 6, 7] _ rfl (by decide)
                                    · have hsg := sums_get (a := za) (b := zb) (k := k) (by omega) (by omega)
                                      have hlt : k < (sums za zb).length := by rw [sums_len (by omega)]; omega
                                      refine ⟨⟨by omega, ?_, by dsimp only; omega, ?_⟩, by omega⟩
                                      · rw [any_succ _ _ _ hlt, hsg, ← hfb]
                                        clear hfb hs1x
                                        simp [*]
                                      · dsimp only
                                        rw [hs1x, List.take_succ_eq_append_getElem hlt, cI, cI, List.map_append, hsg]
                                        rfl
                              · refine oj_slice1 Try.underlying31 Try.sizeOf3 Try.zeroValue3 (fe_t rfl) (by decide) rfl (fun b10 => ⟨fun w h => h.pick [3, 4, 5, 6, 7] _ rfl (by decide), ?_⟩)
                                refine ta_one (i := 1) rfl (by kernel_rfl) (wants_none rfl) (oj_val (y_ldb 2 Try.isAgg31 (fe_t rfl) rfl rfl) (⟨fun w h => h.pick [3, 4, 5, 6, 7] _ rfl (by decide), ?_⟩))
                                refine ta_one (i := 14) rfl (by kernel_rfl) (wants_none rfl) (oj_append (i := 1) (s := 1) (z := (.int .i64 0)) (bytes := 8) Try.underlying31 (by kernel_rfl) (fe_t rfl) (fe_t rfl) rfl (rdl_blk 0 rfl) rfl (by decide) (by first | exact oneI | exact oneF (fun _ => rfl) | exact fun u hu => List.all_eq_true.1 (show List.all _ (fun x => x.oneCell') = true from rfl) u hu | (intro u hu; revert u hu; simp [Value.oneCell'])) (by decide) ⟨by omega, by decide⟩ (fun Aa6 ca6 hca6 => ⟨fun w h => h.pick [3, 4, 5, 6, 7] _ rfl (by decide), ?_⟩))
                                refine ta_float (i := 15) rfl (by kernel_rfl) (wants_none rfl) (yq_of (y_fieldAddr (td := 31) Try.underlying33 rfl rfl Try.sizeOf31 (o' := 2) rfl (fe_t rfl))) ?_
                                refine ta_one (i := 16) rfl (by kernel_rfl) (wants_none rfl) (oj_store1 2 Try.sizeOf31 (fe_t rfl) (fe_t rfl) rfl rfl rfl rfl (⟨fun w h => h.pick [3, 4, 5, 6, 7] _ rfl (by decide), ?_⟩))
                                refine ta_done (by kernel_rfl) ?_
                                refine tx_then ?_
                                refine tr_draw (sel _ [0, 1, 2, 3, 4, 5, 6, 7]) (fun w h => h.sel _ rfl (by decide)) rfl ?_
                                refine ta_float (i := 0) rfl (by kernel_rfl) (wants_none rfl) (yq_of (y_move (fe_t rfl))) ?_
                                refine ta_float (i := 1) rfl (by kernel_rfl) (wants_none rfl) (yq_of (y_move (fe_t rfl))) ?_
                                refine ta_split (d := 121) rfl (fun hq49 => ?_) (fun hq50 => ?_)
                                · try (exfalso; omega)
                                  all_goals
                                    refine ta_skip (i := 2) rfl (by kernel_rfl) (wants_f rfl rfl rfl rfl) ?_
                                    refine ta_skip (i := 3) rfl (by kernel_rfl) (wants_f rfl rfl rfl rfl) ?_
                                    refine ta_skip (i := 4) rfl (by kernel_rfl) (wants_f rfl rfl rfl rfl) ?_
                                    refine ta_skip (i := 5) rfl (by kernel_rfl) (wants_f rfl rfl rfl rfl) ?_
                                    refine ta_skip (i := 6) rfl (by kernel_rfl) (wants_f rfl rfl rfl rfl) ?_
                                    refine ta_skip (i := 7) rfl (by kernel_rfl) (wants_f rfl rfl rfl rfl) ?_
                                    refine ta_skip (i := 8) rfl (by kernel_rfl) (wants_f rfl rfl rfl rfl) ?_
                                    refine ta_skip (i := 9) rfl (by kernel_rfl) (wants_f rfl rfl rfl rfl) ?_
                                    refine ta_skip (i := 10) rfl (by kernel_rfl) (wants_f rfl rfl rfl rfl) ?_
                                    refine ta_skip (i := 11) rfl (by kernel_rfl) (wants_f rfl rfl rfl rfl) ?_
                                    refine ta_skip (i := 12) rfl (by kernel_rfl) (wants_f rfl rfl rfl rfl) ?_
                                    refine ta_skip (i := 13) rfl (by kernel_rfl) (wants_f rfl rfl rfl rfl) ?_
                                    refine ta_float (i := 14) rfl (by kernel_rfl) (wants_none rfl) (yq_of (y_pickt (fe_t rfl) fe_c)) ?_
                                    refine ta_float (i := 15) rfl (by kernel_rfl) (wants_none rfl) (yq_of (y_assign (fe_t rfl))) ?_
                                    refine ta_done (by kernel_rfl) ?_
                                    refine tx_in ?_
                                    refine tx_then ?_
                                    refine tr_region ?_
                                    refine tl_step rfl (oj_val (y_inc (fe_t rfl) fe_c (by omega)) ?_)
                                    refine tl_step rfl (oj_val (y_move (fe_t rfl)) ?_)
                                    refine tl_nil ?_
                                    apply tx_back3 (k + 1) (true) ((⟨_, _, _, _⟩ : Vs))
                                    · exact (cov_cons (by first | rfl | exact v_int (by omega) | exact v_bool (by simp [*])) (cov_cons (by first | rfl | exact v_int (by omega) | exact v_bool (by simp [*])) (cov_nil)))
                                    · repeat (first | exact over_nil | refine over_put rfl ?_ | refine over_drop rfl ?_)
                                    · exact fun w h => h.pick [1, 2, 3, 4, 5, 6, 7] _ rfl (by decide)
                                    · have hsg := sums_get (a := za) (b := zb) (k := k) (by omega) (by omega)
                                      have hlt : k < (sums za zb).length := by rw [sums_len (by omega)]; omega
                                      refine ⟨⟨by omega, ?_, by dsimp only; omega, ?_⟩, by omega⟩
                                      · rw [any_succ _ _ _ hlt, hsg, ← hfb]
                                        clear hfb hs1x
                                        simp [*]
                                      · dsimp only
                                        rw [hs1x, List.take_succ_eq_append_getElem hlt, cI, cI, List.map_append, hsg]
                                        rfl
                                · try (exfalso; omega)
                                  all_goals
                                    refine ta_float (i := 2) rfl (by kernel_rfl) (wants_t rfl rfl rfl) (yq_of (y_fieldAddr (td := 31) Try.underlying33 rfl rfl Try.sizeOf31 (o' := 2) rfl (fe_t rfl))) ?_
                                    refine ta_float (i := 3) rfl (by kernel_rfl) (wants_t rfl rfl rfl) (yq_of (y_ldb 7 Try.isAgg31 (fe_t rfl) rfl rfl)) ?_
                                    refine ta_float (i := 4) rfl (by kernel_rfl) (wants_t rfl rfl rfl) (yq_of (y_move (fe_t rfl))) ?_
                                    refine ta_float (i := 5) rfl (by kernel_rfl) (wants_t rfl rfl rfl) (yq_of (y_index Try.underlying31 Try.sizeOf3 (fe_t rfl) (fe_t rfl) (rdl_out hr) (by first | (simp; done) | (simp; omega)) (by decide) (by omega) (Nat.mul_one _))) ?_
                                    refine ta_float (i := 6) rfl (by kernel_rfl) (wants_t rfl rfl rfl) (yq_of (y_ld Try.isAgg3 (fe_t rfl) (rdl_out hr) (getI (by omega)))) ?_
                                    refine ta_float (i := 7) rfl (by kernel_rfl) (wants_t rfl rfl rfl) (yq_of (y_fieldAddr (td := 31) Try.underlying33 rfl rfl Try.sizeOf31 (o' := 2) rfl (fe_t rfl))) ?_
                                    refine ta_float (i := 8) rfl (by kernel_rfl) (wants_t rfl rfl rfl) (yq_of (y_ldb 6 Try.isAgg31 (fe_t rfl) rfl rfl)) ?_
                                    refine ta_float (i := 9) rfl (by kernel_rfl) (wants_t rfl rfl rfl) (yq_of (y_move (fe_t rfl))) ?_
                                    refine ta_float (i := 10) rfl (by kernel_rfl) (wants_t rfl rfl rfl) (yq_of (y_index Try.underlying31 Try.sizeOf3 (fe_t rfl) (fe_t rfl) (rdl_out hr') (by first | (simp; done) | (simp; omega)) (by decide) (by omega) (Nat.mul_one _))) ?_
                                    refine ta_float (i := 11) rfl (by kernel_rfl) (wants_t rfl rfl rfl) (yq_of (y_ld Try.isAgg3 (fe_t rfl) (rdl_out hr') (getI (by omega)))) ?_
                                    refine ta_float (i := 12) rfl (by kernel_rfl) (wants_t rfl rfl rfl) (yq_of (y_add (fe_t rfl) (fe_t rfl) (by omega))) ?_
                                    refine ta_float (i := 13) rfl (by kernel_rfl) (wants_t rfl rfl rfl) (yq_of (y_gtr (fe_t rfl) fe_c)) ?_
                                    refine ta_float (i := 14) rfl (by kernel_rfl) (wants_none rfl) (yq_of (y_pickf (fe_t rfl) (fe_t rfl))) ?_
                                    refine ta_float (i := 15) rfl (by kernel_rfl) (wants_none rfl) (yq_of (y_assign (fe_t rfl))) ?_
                                    refine ta_done (by kernel_rfl) ?_
                                    refine tx_in ?_
                                    refine tx_then ?_
                                    refine tr_region ?_
                                    refine tl_step rfl (oj_val (y_inc (fe_t rfl) fe_c (by omega)) ?_)
                                    refine tl_step rfl (oj_val (y_move (fe_t rfl)) ?_)
                                    refine tl_nil ?_
                                    apply tx_back3 (k + 1) (_) ((⟨_, _, _, _⟩ : Vs))
                                    · exact (cov_cons (by first | rfl | exact v_int (by omega) | exact v_bool (by simp [*])) (cov_cons (by first | rfl | exact v_int (by omega) | exact v_bool (by simp [*])) (cov_nil)))
                                    · repeat (first | exact over_nil | refine over_put rfl ?_ | refine over_drop rfl ?_)
                                    · exact fun w h => h.pick [1, 2, 3, 4, 5, 6, 7] _ rfl (by decide)
                                    · have hsg := sums_get (a := za) (b := zb) (k := k) (by omega) (by omega)
                                      have hlt : k < (sums za zb).length := by rw [sums_len (by omega)]; omega
                                      refine ⟨⟨by omega, ?_, by dsimp only; omega, ?_⟩, by omega⟩
                                      · rw [any_succ _ _ _ hlt, hsg, ← hfb]
                                        clear hfb hs1x
                                        simp [*]
                                      · dsimp only
                                        rw [hs1x, List.take_succ_eq_append_getElem hlt, cI, cI, List.map_append, hsg]
                                        rfl
                          · try (exfalso; omega)
                            all_goals
                              refine tr_exit ?_
                              refine tx_then_exit ?_
                              refine tx_then_exit ?_
                              refine tx_in_exit ?_
                              refine tx_then ?_
                              refine tr_seq ?_
                              refine tr_seq ?_
                              refine tr_region ?_
                              refine tl_step rfl (oj_val (y_move (fe_t rfl)) ?_)
                              refine tl_nil ?_
                              refine tx_then ?_
                              refine tr_cond (fe_t rfl) (fun hq51 => ?_) (fun hq52 => ?_)
                              · exfalso; rw [hfb, List.take_of_length_le (by rw [sums_len (by omega)]; omega)] at hq51; rw [full] at hf; rw [hf] at hq51; cases hq51
                              · try (exfalso; omega)
                                all_goals
                                  refine tr_skip ?_
                                  refine tx_then ?_
                                  refine tr_seq ?_
                                  refine tr_region ?_
                                  refine tl_step rfl (oj_val (y_move (fe_t rfl)) ?_)
                                  refine tl_step rfl (oj_val (y_eq (fe_t rfl) fe_c) ?_)
                                  refine tl_step rfl (oj_val (y_move (fe_t rfl)) ?_)
                                  refine tl_splitp (d := 146) rfl (fun hq53 => ?_) (fun hq54 => ?_)
                                  · try (exfalso; omega)
                                    all_goals
                                      refine tl_want rfl rfl rfl (oj_val (y_ldbA 2 Try.isAgg33 Try.sizeOf33 (fe_t rfl) rfl rfl rfl) ?_)
                                      refine tl_want rfl rfl rfl (oj_val (y_ldbA 1 Try.isAgg33 Try.sizeOf33 (fe_t rfl) rfl rfl rfl) ?_)
                                      refine tl_want rfl rfl rfl (oj_callv Try.call21 fe_f (fel_cons (fe_t rfl) (fel_cons (fe_t rfl) fel_nil)) (fun w' hS => same_eq r1 x1 q.1 s1.A za.length s1.n q.2 s1.c (sums za zb) w' (OwnV.rd (hS.holds 3 _ rfl)).2.2 (by have h := (OwnV.rd (hS.holds 0 _ rfl)).2.2; rw [hs1x, List.take_of_length_le (by rw [sums_len (by omega)]; omega)] at h; exact h) (by rw [sums_len (by omega)]) (by omega) (by omega)) ?_)
                                      refine tl_step rfl (oj_val (y_pickt (fe_t rfl) (fe_t rfl)) ?_)
                                      refine tl_step rfl (oj_val (y_assign (fe_t rfl)) ?_)
                                      refine tl_nil ?_
                                      refine tx_then ?_
                                      refine tr_ret ?_
                                      refine tx_ret (res1 Try.results4 (rok_t rfl)) (fun w' hS => ?_)
                                      exact ⟨ret_bool (by first | rfl | (simp; done)), hS.pick [] _ rfl (by decide)⟩
                                  · try (exfalso; omega)
                                    all_goals
                                      refine tl_skip rfl rfl rfl rfl ?_
                                      refine tl_skip rfl rfl rfl rfl ?_
                                      refine tl_skip rfl rfl rfl rfl ?_
                                      refine tl_step rfl (oj_val (y_pickf (fe_t rfl) fe_c) ?_)
                                      refine tl_step rfl (oj_val (y_assign (fe_t rfl)) ?_)
                                      refine tl_nil ?_
                                      refine tx_then ?_
                                      refine tr_ret ?_
                                      refine tx_ret (res1 Try.results4 (rok_t rfl)) (fun w' hS => ?_)
                                      exact ⟨ret_bool (by first | rfl | (simp; done)), hS.pick [] _ rfl (by decide)⟩
          · try (exfalso; omega)
            all_goals
              refine tl_want rfl rfl rfl (oj_val (y_move (fe_t rfl)) ?_)
              refine tl_want rfl rfl rfl (oj_val (y_gtr (fe_t rfl) fe_c) ?_)
              refine tl_step rfl (oj_val (y_pickf (fe_t rfl) (fe_t rfl)) ?_)
              refine tl_nil ?_
              refine tx_then ?_
              refine tr_condp (fe_t rfl) (fun hq55 => ?_) (fun hq56 => ?_)
              · try (exfalso; omega)
                all_goals
                  refine tr_seq ?_
                  refine tr_region ?_
                  refine tl_step rfl (oj_val (y_move (fe_t rfl)) ?_)
                  refine tl_step rfl (oj_val (y_neq (fe_t rfl) fe_c) ?_)
                  refine tl_step rfl (oj_val (y_move (fe_t rfl)) ?_)
                  refine tl_splitp (d := 44) rfl (fun hq57 => ?_) (fun hq58 => ?_)
                  · try (exfalso; omega)
                    all_goals
                      refine tl_skip rfl rfl rfl rfl ?_
                      refine tl_skip rfl rfl rfl rfl ?_
                      refine tl_skip rfl rfl rfl rfl ?_
                      refine tl_skip rfl rfl rfl rfl ?_
                      refine tl_step rfl (oj_val (y_pickt (fe_t rfl) fe_c) ?_)
                      refine tl_nil ?_
                      refine tx_then ?_
                      exfalso; omega
                  · try (exfalso; omega)
                    all_goals
                      refine tl_want rfl rfl rfl (oj_val (y_ldbA 2 Try.isAgg33 Try.sizeOf33 (fe_t rfl) rfl rfl rfl) ?_)
                      refine tl_want rfl rfl rfl (oj_val (y_build (is := []) (vs := []) (cs := [.int .i64 0, .int .i64 0, .slice none 0 0]) rfl fel_nil (by kernel_rfl)) ?_)
                      refine tl_want rfl rfl rfl (oj_callv Try.call21 fe_f (fel_cons (fe_t rfl) (fel_cons (fe_t rfl) fel_nil)) (fun w' hS => of_bel (same_any 0 0 none none 0 0 0 [] w' Rd.nil Rd.nil rfl (by omega))) ?_)
                      refine tl_want rfl rfl rfl (oj_val (y_not (fe_t rfl)) ?_)
                      refine tl_step rfl (oj_val (y_pickf (fe_t rfl) (fe_t rfl)) ?_)
                      refine tl_nil ?_
                      refine tx_then ?_
                      refine tr_condf (fe_t rfl) ?_
                      refine tr_skip ?_
                      refine tx_then ?_
                      refine tr_seq ?_
                      refine tr_seq ?_
                      refine tr_region ?_
                      refine tl_step rfl (oj_val (y_ldbA 4 Try.isAgg33 Try.sizeOf33 (fe_t rfl) rfl rfl rfl) ?_)
                      refine tl_step rfl (oj_callv Try.call22 fe_f (fel_cons (fe_t rfl) fel_nil) (fun w' hS => of_bel (vright_yes A n c w' (Rd.below hr hS.below) hn (by omega) va)) ?_)
                      refine tl_step rfl (oj_val (y_not (fe_t rfl)) ?_)
                      refine tl_step rfl (oj_val (y_move (fe_t rfl)) ?_)
                      refine tl_want rfl rfl rfl (oj_val (y_ldbA 3 Try.isAgg33 Try.sizeOf33 (fe_t rfl) rfl rfl rfl) ?_)
                      refine tl_want rfl rfl rfl (oj_callv Try.call22 fe_f (fel_cons (fe_t rfl) fel_nil) (fun w' hS => of_bel (vright_yes B n d w' (Rd.below hr' hS.below) hm (by omega) vb)) ?_)
                      refine tl_want rfl rfl rfl (oj_val (y_not (fe_t rfl)) ?_)
                      refine tl_step rfl (oj_val (y_pickf (fe_t rfl) (fe_t rfl)) ?_)
                      refine tl_step rfl (oj_val (y_move (fe_t rfl)) ?_)
                      refine tl_want rfl rfl rfl (oj_val (y_fieldAddr (td := 3) Try.underlying33 rfl rfl Try.sizeOf3 (o' := 0) rfl (fe_t rfl)) ?_)
                      refine tl_want rfl rfl rfl (oj_val (y_ldb 4 Try.isAgg3 (fe_t rfl) rfl rfl) ?_)
                      refine tl_want rfl rfl rfl (oj_val (y_fieldAddr (td := 3) Try.underlying33 rfl rfl Try.sizeOf3 (o' := 0) rfl (fe_t rfl)) ?_)
                      refine tl_want rfl rfl rfl (oj_val (y_ldb 3 Try.isAgg3 (fe_t rfl) rfl rfl) ?_)
                      refine tl_want rfl rfl rfl (oj_val (y_neq (fe_t rfl) (fe_t rfl)) ?_)
                      refine tl_step rfl (oj_val (y_pickf (fe_t rfl) (fe_t rfl)) ?_)
                      refine tl_step rfl (oj_val (y_move (fe_t rfl)) ?_)
                      refine tl_splitp (d := 79) rfl (fun hq59 => ?_) (fun hq60 => ?_)
                      · try (exfalso; omega)
                        all_goals
                          refine tl_skip rfl rfl rfl rfl ?_
                          refine tl_skip rfl rfl rfl rfl ?_
                          refine tl_skip rfl rfl rfl rfl ?_
                          refine tl_skip rfl rfl rfl rfl ?_
                          refine tl_skip rfl rfl rfl rfl ?_
                          refine tl_step rfl (oj_val (y_pickt (fe_t rfl) fe_c) ?_)
                          refine tl_nil ?_
                          refine tx_then ?_
                          exfalso; omega
                      · try (exfalso; omega)
                        all_goals
                          refine tl_want rfl rfl rfl (oj_val (y_fieldAddr (td := 3) Try.underlying33 rfl rfl Try.sizeOf3 (o' := 1) rfl (fe_t rfl)) ?_)
                          refine tl_want rfl rfl rfl (oj_val (y_ldb 4 Try.isAgg3 (fe_t rfl) rfl rfl) ?_)
                          refine tl_want rfl rfl rfl (oj_val (y_fieldAddr (td := 3) Try.underlying33 rfl rfl Try.sizeOf3 (o' := 1) rfl (fe_t rfl)) ?_)
                          refine tl_want rfl rfl rfl (oj_val (y_ldb 3 Try.isAgg3 (fe_t rfl) rfl rfl) ?_)
                          refine tl_want rfl rfl rfl (oj_val (y_neq (fe_t rfl) (fe_t rfl)) ?_)
                          refine tl_step rfl (oj_val (y_pickf (fe_t rfl) (fe_t rfl)) ?_)
                          refine tl_nil ?_
                          refine tx_then ?_
                          refine tr_condp (fe_t rfl) (fun hq61 => ?_) (fun hq62 => ?_)
                          · exfalso; omega
                          · try (exfalso; omega)
                            all_goals
                              refine tr_skip ?_
                              refine tx_then ?_
                              refine tr_seq ?_
                              refine tr_region ?_
                              refine tl_step rfl (oj_val (y_fieldAddr (td := 3) Try.underlying33 rfl rfl Try.sizeOf3 (o' := 0) rfl (fe_t rfl)) ?_)
                              refine tl_step rfl (oj_val (y_ldb 4 Try.isAgg3 (fe_t rfl) rfl rfl) ?_)
                              refine tl_step rfl (oj_val (y_fieldAddr (td := 3) Try.underlying33 rfl rfl Try.sizeOf3 (o' := 1) rfl (fe_t rfl)) ?_)
                              refine tl_step rfl (oj_val (y_ldb 4 Try.isAgg3 (fe_t rfl) rfl rfl) ?_)
                              refine tl_step rfl (oj_val ((fun {u0 u1} hx hb => y_build (is := [0, 1]) (vs := [u0, u1]) (cs := [u0, u1, .slice none 0 0]) rfl hx hb) (fel_cons (fe_t rfl) (fel_cons (fe_t rfl) fel_nil)) (by kernel_rfl)) ?_)
                              refine tl_step rfl (oj_alloc Try.zeroValue33 (fun wb => ?_))
                              refine tl_step rfl (oj_storeW 0 Try.sizeOf33 (fe_t rfl) (fe_t rfl) rfl rfl rfl rfl rfl (?_))
                              refine tl_nil ?_
                              refine tx_then ?_
                              refine tr_seq ?_
                              refine tr_region ?_
                              refine tl_step rfl (oj_val (y_assign fe_c) ?_)
                              refine tl_nil ?_
                              refine tx_then ?_
                              refine tr_seq ?_
                              refine tr_seq ?_
                              refine tr_region ?_
                              refine tl_step rfl (oj_val (y_fieldAddr (td := 31) Try.underlying33 rfl rfl Try.sizeOf31 (o' := 2) rfl (fe_t rfl)) ?_)
                              refine tl_step rfl (oj_val (y_ldb 5 Try.isAgg31 (fe_t rfl) rfl rfl) ?_)
                              refine tl_step rfl (oj_val (y_len Try.underlying31 (fe_t rfl)) ?_)
                              refine tl_step rfl (oj_val (y_move fe_c) ?_)
                              refine tl_nil ?_
                              refine tx_then ?_
                              refine tr_block ?_
                              refine tr_add (r := vec 3 1 (.slice none 0 0) 0 []) vec_nil rfl ?_
                              refine tr_loop3 [14, 15, 101, 102, 103, 104, 105, 106, 107, 108, 109, 110, 111, 112, 113, 114, 115, 116, 117, 118, 119, 120, 121, 122, 123, 124, 125, 126, 127, 128, 129, 130, 131, 132, 133, 134, 135] (fun (k : Nat) (fb : Bool) (s1 : Vs) => [(101, .int .i64 (k : Int)), (14, .bool fb)]) 0 (fun (k : Nat) (fb : Bool) (s1 : Vs) => [(1, blk wb [.int .i64 r1, .int .i64 x1, .slice s1.A s1.n s1.c]), (0, vec 3 1 (.slice s1.A s1.n s1.c) s1.n s1.xs)]) (fun (k : Nat) (fb : Bool) (s1 : Vs) => k ≤ n ∧ fb = ((sums za zb).take k).any (fun n => decide (1099511627776 < n)) ∧ s1.n = k ∧ s1.xs = cI ((sums za zb).take k)) (fun (k : Nat) (fb : Bool) (s1 : Vs) => n - k) (0) (false) (⟨none, 0, 0, []⟩ : Vs) (cov_cons (by first | rfl | exact v_int (by omega) | exact v_bool (by simp [*])) (cov_cons (by first | rfl | exact v_int (by omega) | exact v_bool (by simp [*])) (cov_nil))) (fun w h => h) ?_ ?_
                              · try dsimp only
                                simp [cI]
                              intro k fb s1 hp
                              obtain ⟨hk, hfb, hs1n, hs1x⟩ := hp
                              refine tr_seq ?_
                              refine tr_region ?_
                              refine tl_step rfl (oj_val (y_lss (fe_t rfl) (fe_t rfl)) ?_)
                              refine tl_nil ?_
                              refine tx_then ?_
                              refine tr_seq ?_
                              refine tr_condp (fe_t rfl) (fun hq63 => ?_) (fun hq64 => ?_)
                              · try (exfalso; omega)
                                all_goals
                                  refine tr_skip ?_
                                  refine tx_then ?_
                                  refine tr_seq ?_
                                  refine tr_block ?_
                                  refine tr_seq ?_
                                  refine tr_region ?_
                                  refine tl_step rfl (oj_val (y_move (fe_t rfl)) ?_)
                                  refine tl_step rfl (oj_val (y_assign (fe_t rfl)) ?_)
                                  refine tl_nil ?_
                                  refine tx_then ?_
                                  refine tr_seq ?_
                                  have hza := good_cells va k (by omega)
                                  have hzb := good_cells vb k (by omega)
                                  refine tr_draw (sel _ [2, 3, 4, 5, 6]) (fun w h => h.sel _ rfl (by decide)) rfl ?_
                                  refine ta_float (i := 0) rfl (by kernel_rfl) (wants_none rfl) (yq_of (y_fieldAddr (td := 31) Try.underlying33 rfl rfl Try.sizeOf31 (o' := 2) rfl (fe_t rfl))) ?_
                                  refine ta_float (i := 2) rfl (by kernel_rfl) (wants_none rfl) (yq_of (y_fieldAddr (td := 31) Try.underlying33 rfl rfl Try.sizeOf31 (o' := 2) rfl (fe_t rfl))) ?_
                                  refine ta_float (i := 3) rfl (by kernel_rfl) (wants_none rfl) (yq_of (y_ldb 4 Try.isAgg31 (fe_t rfl) rfl rfl)) ?_
                                  refine ta_float (i := 4) rfl (by kernel_rfl) (wants_none rfl) (yq_of (y_move (fe_t rfl))) ?_
                                  refine ta_float (i := 5) rfl (by kernel_rfl) (wants_none rfl) (yq_of (y_index Try.underlying31 Try.sizeOf3 (fe_t rfl) (fe_t rfl) (rdl_out hr) (by first | (simp; done) | (simp; omega)) (by decide) (by omega) (Nat.mul_one _))) ?_
                                  refine ta_float (i := 6) rfl (by kernel_rfl) (wants_none rfl) (yq_of (y_ld Try.isAgg3 (fe_t rfl) (rdl_out hr) (getI (by omega)))) ?_
                                  refine ta_float (i := 7) rfl (by kernel_rfl) (wants_none rfl) (yq_of (y_fieldAddr (td := 31) Try.underlying33 rfl rfl Try.sizeOf31 (o' := 2) rfl (fe_t rfl))) ?_
                                  refine ta_float (i := 8) rfl (by kernel_rfl) (wants_none rfl) (yq_of (y_ldb 3 Try.isAgg31 (fe_t rfl) rfl rfl)) ?_
                                  refine ta_float (i := 9) rfl (by kernel_rfl) (wants_none rfl) (yq_of (y_move (fe_t rfl))) ?_
                                  refine ta_float (i := 10) rfl (by kernel_rfl) (wants_none rfl) (yq_of (y_index Try.underlying31 Try.sizeOf3 (fe_t rfl) (fe_t rfl) (rdl_out hr') (by first | (simp; done) | (simp; omega)) (by decide) (by omega) (Nat.mul_one _))) ?_
                                  refine ta_float (i := 11) rfl (by kernel_rfl) (wants_none rfl) (yq_of (y_ld Try.isAgg3 (fe_t rfl) (rdl_out hr') (getI (by omega)))) ?_
                                  refine ta_float (i := 12) rfl (by kernel_rfl) (wants_none rfl) (yq_of (y_add (fe_t rfl) (fe_t rfl) (by omega))) ?_
                                  refine ta_two (i := 1) (j := 13) rfl rfl (by kernel_rfl) (wants_none rfl) (wants_none rfl) ?_ ?_
                                  · refine oj_val (y_ldb 1 Try.isAgg31 (fe_t rfl) rfl rfl) (⟨fun w h => h.pick [2, 3, 4, 5, 6] _ rfl (by decide), ?_⟩)
                                    refine ta_one (i := 13) rfl (by kernel_rfl) (wants_none rfl) (oj_slice1 Try.underlying31 Try.sizeOf3 Try.zeroValue3 (fe_t rfl) (by decide) rfl (fun b11 => ⟨fun w h => h.pick [3, 4, 5, 6, 7] _ rfl (by decide), ?_⟩))
                                    refine ta_one (i := 14) rfl (by kernel_rfl) (wants_none rfl) (oj_append (i := 1) (s := 1) (z := (.int .i64 0)) (bytes := 8) Try.underlying31 (by kernel_rfl) (fe_t rfl) (fe_t rfl) rfl (rdl_blk 0 rfl) rfl (by decide) (by first | exact oneI | exact oneF (fun _ => rfl) | exact fun u hu => List.all_eq_true.1 (show List.all _ (fun x => x.oneCell') = true from rfl) u hu | (intro u hu; revert u hu; simp [Value.oneCell'])) (by decide) ⟨by omega, by decide⟩ (fun Aa7 ca7 hca7 => ⟨fun w h => h.pick [3, 4, 5, 6, 7] _ rfl (by decide), ?_⟩))
                                    refine ta_float (i := 15) rfl (by kernel_rfl) (wants_none rfl) (yq_of (y_fieldAddr (td := 31) Try.underlying33 rfl rfl Try.sizeOf31 (o' := 2) rfl (fe_t rfl))) ?_
                                    refine ta_one (i := 16) rfl (by kernel_rfl) (wants_none rfl) (oj_store1 2 Try.sizeOf31 (fe_t rfl) (fe_t rfl) rfl rfl rfl rfl (⟨fun w h => h.pick [3, 4, 5, 6, 7] _ rfl (by decide), ?_⟩))
                                    refine ta_done (by kernel_rfl) ?_
                                    refine tx_then ?_
                                    refine tr_draw (sel _ [0, 1, 2, 3, 4, 5, 6, 7]) (fun w h => h.sel _ rfl (by decide)) rfl ?_
                                    refine ta_float (i := 0) rfl (by kernel_rfl) (wants_none rfl) (yq_of (y_move (fe_t rfl))) ?_
                                    refine ta_float (i := 1) rfl (by kernel_rfl) (wants_none rfl) (yq_of (y_move (fe_t rfl))) ?_
                                    refine ta_split (d := 121) rfl (fun hq65 => ?_) (fun hq66 => ?_)
                                    · try (exfalso; omega)
                                      all_goals
                                        refine ta_skip (i := 2) rfl (by kernel_rfl) (wants_f rfl rfl rfl rfl) ?_
                                        refine ta_skip (i := 3) rfl (by kernel_rfl) (wants_f rfl rfl rfl rfl) ?_
                                        refine ta_skip (i := 4) rfl (by kernel_rfl) (wants_f rfl rfl rfl rfl) ?_
                                        refine ta_skip (i := 5) rfl (by kernel_rfl) (wants_f rfl rfl rfl rfl) ?_
                                        refine ta_skip (i := 6) rfl (by kernel_rfl) (wants_f rfl rfl rfl rfl) ?_
                                        refine ta_skip (i := 7) rfl (by kernel_rfl) (wants_f rfl rfl rfl rfl) ?_
                                        refine ta_skip (i := 8) rfl (by kernel_rfl) (wants_f rfl rfl rfl rfl) ?_
                                        refine ta_skip (i := 9) rfl (by kernel_rfl) (wants_f rfl rfl rfl rfl) ?_
                                        refine ta_skip (i := 10) rfl (by kernel_rfl) (wants_f rfl rfl rfl rfl) ?_
                                        refine ta_skip (i := 11) rfl (by kernel_rfl) (wants_f rfl rfl rfl rfl) ?_
                                        refine ta_skip (i := 12) rfl (by kernel_rfl) (wants_f rfl rfl rfl rfl) ?_
                                        refine ta_skip (i := 13) rfl (by kernel_rfl) (wants_f rfl rfl rfl rfl) ?_
                                        refine ta_float (i := 14) rfl (by kernel_rfl) (wants_none rfl) (yq_of (y_pickt (fe_t rfl) fe_c)) ?_
                                        refine ta_float (i := 15) rfl (by kernel_rfl) (wants_none rfl) (yq_of (y_assign (fe_t rfl))) ?_
                                        refine ta_done (by kernel_rfl) ?_
                                        refine tx_in ?_
                                        refine tx_then ?_
                                        refine tr_region ?_
                                        refine tl_step rfl (oj_val (y_inc (fe_t rfl) fe_c (by omega)) ?_)
                                        refine tl_step rfl (oj_val (y_move (fe_t rfl)) ?_)
                                        refine tl_nil ?_
                                        apply tx_back3 (k + 1) (true) ((⟨_, _, _, _⟩ : Vs))
                                        · exact (cov_cons (by first | rfl | exact v_int (by omega) | exact v_bool (by simp [*])) (cov_cons (by first | rfl | exact v_int (by omega) | exact v_bool (by simp [*])) (cov_nil)))
                                        · repeat (first | exact over_nil | refine over_put rfl ?_ | refine over_drop rfl ?_)
                                        · exact fun w h => h.pick [1, 2, 3, 4, 5, 6, 7] _ rfl (by decide)
                                        · have hsg := sums_get (a := za) (b := zb) (k := k) (by omega) (by omega)
                                          have hlt : k < (sums za zb).length := by rw [sums_len (by omega)]; omega
                                          refine ⟨⟨by omega, ?_, by dsimp only; omega, ?_⟩, by omega⟩
                                          · rw [any_succ _ _ _ hlt, hsg, ← hfb]
                                            clear hfb hs1x
                                            simp [*]
                                          · dsimp only
                                            rw [hs1x, List.take_succ_eq_append_getElem hlt, cI, cI, List.map_append, hsg]
                                            rfl
                                    · try (exfalso; omega)
                                      all_goals
                                        refine ta_float (i := 2) rfl (by kernel_rfl) (wants_t rfl rfl rfl) (yq_of (y_fieldAddr (td := 31) Try.underlying33 rfl rfl Try.sizeOf31 (o' := 2) rfl (fe_t rfl))) ?_
                                        refine ta_float (i := 3) rfl (by kernel_rfl) (wants_t rfl rfl rfl) (yq_of (y_ldb 7 Try.isAgg31 (fe_t rfl) rfl rfl)) ?_
                                        refine ta_float (i := 4) rfl (by kernel_rfl) (wants_t rfl rfl rfl) (yq_of (y_move (fe_t rfl))) ?_
                                        refine ta_float (i := 5) rfl (by kernel_rfl) (wants_t rfl rfl rfl) (yq_of (y_index Try.underlying31 Try.sizeOf3 (fe_t rfl) (fe_t rfl) (rdl_out hr) (by first | (simp; done) | (simp; omega)) (by decide) (by omega) (Nat.mul_one _))) ?_
                                        refine ta_float (i := 6) rfl (by kernel_rfl) (wants_t rfl rfl rfl) (yq_of (y_ld Try.isAgg3 (fe_t rfl) (rdl_out hr) (getI (by omega)))) ?_
                                        refine ta_float (i := 7) rfl (by kernel_rfl) (wants_t rfl rfl rfl) (yq_of (y_fieldAddr (td := 31) Try.underlying33 rfl rfl Try.sizeOf31 (o' := 2) rfl (fe_t rfl))) ?_
                                        refine ta_float (i := 8) rfl (by kernel_rfl) (wants_t rfl rfl rfl) (yq_of (y_ldb 6 Try.isAgg31 (fe_t rfl) rfl rfl)) ?_
                                        refine ta_float (i := 9) rfl (by kernel_rfl) (wants_t rfl rfl rfl) (yq_of (y_move (fe_t rfl))) ?_
                                        refine ta_float (i := 10) rfl (by kernel_rfl) (wants_t rfl rfl rfl) (yq_of (y_index Try.underlying31 Try.sizeOf3 (fe_t rfl) (fe_t rfl) (rdl_out hr') (by first | (simp; done) | (simp; omega)) (by decide) (by omega) (Nat.mul_one _))) ?_
                                        refine ta_float (i := 11) rfl (by kernel_rfl) (wants_t rfl rfl rfl) (yq_of (y_ld Try.isAgg3 (fe_t rfl) (rdl_out hr') (getI (by omega)))) ?_
                                        refine ta_float (i := 12) rfl (by kernel_rfl) (wants_t rfl rfl rfl) (yq_of (y_add (fe_t rfl) (fe_t rfl) (by omega))) ?_
                                        refine ta_float (i := 13) rfl (by kernel_rfl) (wants_t rfl rfl rfl) (yq_of (y_gtr (fe_t rfl) fe_c)) ?_
                                        refine ta_float (i := 14) rfl (by kernel_rfl) (wants_none rfl) (yq_of (y_pickf (fe_t rfl) (fe_t rfl))) ?_
                                        refine ta_float (i := 15) rfl (by kernel_rfl) (wants_none rfl) (yq_of (y_assign (fe_t rfl))) ?_
                                        refine ta_done (by kernel_rfl) ?_
                                        refine tx_in ?_
                                        refine tx_then ?_
                                        refine tr_region ?_
                                        refine tl_step rfl (oj_val (y_inc (fe_t rfl) fe_c (by omega)) ?_)
                                        refine tl_step rfl (oj_val (y_move (fe_t rfl)) ?_)
                                        refine tl_nil ?_
                                        apply tx_back3 (k + 1) (_) ((⟨_, _, _, _⟩ : Vs))
                                        · exact (cov_cons (by first | rfl | exact v_int (by omega) | exact v_bool (by simp [*])) (cov_cons (by first | rfl | exact v_int (by omega) | exact v_bool (by simp [*])) (cov_nil)))
                                        · repeat (first | exact over_nil | refine over_put rfl ?_ | refine over_drop rfl ?_)
                                        · exact fun w h => h.pick [1, 2, 3, 4, 5, 6, 7] _ rfl (by decide)
                                        · have hsg := sums_get (a := za) (b := zb) (k := k) (by omega) (by omega)
                                          have hlt : k < (sums za zb).length := by rw [sums_len (by omega)]; omega
                                          refine ⟨⟨by omega, ?_, by dsimp only; omega, ?_⟩, by omega⟩
                                          · rw [any_succ _ _ _ hlt, hsg, ← hfb]
                                            clear hfb hs1x
                                            simp [*]
                                          · dsimp only
                                            rw [hs1x, List.take_succ_eq_append_getElem hlt, cI, cI, List.map_append, hsg]
                                            rfl
                                  · refine oj_slice1 Try.underlying31 Try.sizeOf3 Try.zeroValue3 (fe_t rfl) (by decide) rfl (fun b12 => ⟨fun w h => h.pick [3, 4, 5, 6, 7] _ rfl (by decide), ?_⟩)
                                    refine ta_one (i := 1) rfl (by kernel_rfl) (wants_none rfl) (oj_val (y_ldb 2 Try.isAgg31 (fe_t rfl) rfl rfl) (⟨fun w h => h.pick [3, 4, 5, 6, 7] _ rfl (by decide), ?_⟩))
                                    refine ta_one (i := 14) rfl (by kernel_rfl) (wants_none rfl) (oj_append (i := 1) (s := 1) (z := (.int .i64 0)) (bytes := 8) Try.underlying31 (by kernel_rfl) (fe_t rfl) (fe_t rfl) rfl (rdl_blk 0 rfl) rfl (by decide) (by first | exact oneI | exact oneF (fun _ => rfl) | exact fun u hu => List.all_eq_true.1 (show List.all _ (fun x => x.oneCell') = true from rfl) u hu | (intro u hu; revert u hu; simp [Value.oneCell'])) (by decide) ⟨by omega, by decide⟩ (fun Aa8 ca8 hca8 => ⟨fun w h => h.pick [3, 4, 5, 6, 7] _ rfl (by decide), ?_⟩))
                                    refine ta_float (i := 15) rfl (by kernel_rfl) (wants_none rfl) (yq_of (y_fieldAddr (td := 31) Try.underlying33 rfl rfl Try.sizeOf31 (o' := 2) rfl (fe_t rfl))) ?_
                                    refine ta_one (i := 16) rfl (by kernel_rfl) (wants_none rfl) (oj_store1 2 Try.sizeOf31 (fe_t rfl) (fe_t rfl) rfl rfl rfl rfl (⟨fun w h => h.pick [3, 4, 5, 6, 7] _ rfl (by decide), ?_⟩))
                                    refine ta_done (by kernel_rfl) ?_
                                    refine tx_then ?_
                                    refine tr_draw (sel _ [0, 1, 2, 3, 4, 5, 6, 7]) (fun w h => h.sel _ rfl (by decide)) rfl ?_
                                    refine ta_float (i := 0) rfl (by kernel_rfl) (wants_none rfl) (yq_of (y_move (fe_t rfl))) ?_
                                    refine ta_float (i := 1) rfl (by kernel_rfl) (wants_none rfl) (yq_of (y_move (fe_t rfl))) ?_
                                    refine ta_split (d := 121) rfl (fun hq67 => ?_) (fun hq68 => ?_)
                                    · try (exfalso; omega)
                                      all_goals
                                        refine ta_skip (i := 2) rfl (by kernel_rfl) (wants_f rfl rfl rfl rfl) ?_
                                        refine ta_skip (i := 3) rfl (by kernel_rfl) (wants_f rfl rfl rfl rfl) ?_
                                        refine ta_skip (i := 4) rfl (by kernel_rfl) (wants_f rfl rfl rfl rfl) ?_
                                        refine ta_skip (i := 5) rfl (by kernel_rfl) (wants_f rfl rfl rfl rfl) ?_
                                        refine ta_skip (i := 6) rfl (by kernel_rfl) (wants_f rfl rfl rfl rfl) ?_
                                        refine ta_skip (i := 7) rfl (by kernel_rfl) (wants_f rfl rfl rfl rfl) ?_
                                        refine ta_skip (i := 8) rfl (by kernel_rfl) (wants_f rfl rfl rfl rfl) ?_
                                        refine ta_skip (i := 9) rfl (by kernel_rfl) (wants_f rfl rfl rfl rfl) ?_
                                        refine ta_skip (i := 10) rfl (by kernel_rfl) (wants_f rfl rfl rfl rfl) ?_
                                        refine ta_skip (i := 11) rfl (by kernel_rfl) (wants_f rfl rfl rfl rfl) ?_
                                        refine ta_skip (i := 12) rfl (by kernel_rfl) (wants_f rfl rfl rfl rfl) ?_
                                        refine ta_skip (i := 13) rfl (by kernel_rfl) (wants_f rfl rfl rfl rfl) ?_
                                        refine ta_float (i := 14) rfl (by kernel_rfl) (wants_none rfl) (yq_of (y_pickt (fe_t rfl) fe_c)) ?_
                                        refine ta_float (i := 15) rfl (by kernel_rfl) (wants_none rfl) (yq_of (y_assign (fe_t rfl))) ?_
                                        refine ta_done (by kernel_rfl) ?_
                                        refine tx_in ?_
                                        refine tx_then ?_
                                        refine tr_region ?_
                                        refine tl_step rfl (oj_val (y_inc (fe_t rfl) fe_c (by omega)) ?_)
                                        refine tl_step rfl (oj_val (y_move (fe_t rfl)) ?_)
                                        refine tl_nil ?_
                                        apply tx_back3 (k + 1) (true) ((⟨_, _, _, _⟩ : Vs))
                                        · exact (cov_cons (by first | rfl | exact v_int (by omega) | exact v_bool (by simp [*])) (cov_cons (by first | rfl | exact v_int (by omega) | exact v_bool (by simp [*])) (cov_nil)))
                                        · repeat (first | exact over_nil | refine over_put rfl ?_ | refine over_drop rfl ?_)
                                        · exact fun w h => h.pick [1, 2, 3, 4, 5, 6, 7] _ rfl (by decide)
                                        · have hsg := sums_get (a := za) (b := zb) (k := k) (by omega) (by omega)
                                          have hlt : k < (sums za zb).length := by rw [sums_len (by omega)]; omega
                                          refine ⟨⟨by omega, ?_, by dsimp only; omega, ?_⟩, by omega⟩
                                          · rw [any_succ _ _ _ hlt, hsg, ← hfb]
                                            clear hfb hs1x
                                            simp [*]
                                          · dsimp only
                                            rw [hs1x, List.take_succ_eq_append_getElem hlt, cI, cI, List.map_append, hsg]
                                            rfl
                                    · try (exfalso; omega)
                                      all_goals
                                        refine ta_float (i := 2) rfl (by kernel_rfl) (wants_t rfl rfl rfl) (yq_of (y_fieldAddr (td := 31) Try.underlying33 rfl rfl Try.sizeOf31 (o' := 2) rfl (fe_t rfl))) ?_
                                        refine ta_float (i := 3) rfl (by kernel_rfl) (wants_t rfl rfl rfl) (yq_of (y_ldb 7 Try.isAgg31 (fe_t rfl) rfl rfl)) ?_
                                        refine ta_float (i := 4) rfl (by kernel_rfl) (wants_t rfl rfl rfl) (yq_of (y_move (fe_t rfl))) ?_
                                        refine ta_float (i := 5) rfl (by kernel_rfl) (wants_t rfl rfl rfl) (yq_of (y_index Try.underlying31 Try.sizeOf3 (fe_t rfl) (fe_t rfl) (rdl_out hr) (by first | (simp; done) | (simp; omega)) (by decide) (by omega) (Nat.mul_one _))) ?_
                                        refine ta_float (i := 6) rfl (by kernel_rfl) (wants_t rfl rfl rfl) (yq_of (y_ld Try.isAgg3 (fe_t rfl) (rdl_out hr) (getI (by omega)))) ?_
                                        refine ta_float (i := 7) rfl (by kernel_rfl) (wants_t rfl rfl rfl) (yq_of (y_fieldAddr (td := 31) Try.underlying33 rfl rfl Try.sizeOf31 (o' := 2) rfl (fe_t rfl))) ?_
                                        refine ta_float (i := 8) rfl (by kernel_rfl) (wants_t rfl rfl rfl) (yq_of (y_ldb 6 Try.isAgg31 (fe_t rfl) rfl rfl)) ?_
                                        refine ta_float (i := 9) rfl (by kernel_rfl) (wants_t rfl rfl rfl) (yq_of (y_move (fe_t rfl))) ?_
                                        refine ta_float (i := 10) rfl (by kernel_rfl) (wants_t rfl rfl rfl) (yq_of (y_index Try.underlying31 Try.sizeOf3 (fe_t rfl) (fe_t rfl) (rdl_out hr') (by first | (simp; done) | (simp; omega)) (by decide) (by omega) (Nat.mul_one _))) ?_
                                        refine ta_float (i := 11) rfl (by kernel_rfl) (wants_t rfl rfl rfl) (yq_of (y_ld Try.isAgg3 (fe_t rfl) (rdl_out hr') (getI (by omega)))) ?_
                                        refine ta_float (i := 12) rfl (by kernel_rfl) (wants_t rfl rfl rfl) (yq_of (y_add (fe_t rfl) (fe_t rfl) (by omega))) ?_
                                        refine ta_float (i := 13) rfl (by kernel_rfl) (wants_t rfl rfl rfl) (yq_of (y_gtr (fe_t rfl) fe_c)) ?_
                                        refine ta_float (i := 14) rfl (by kernel_rfl) (wants_none rfl) (yq_of (y_pickf (fe_t rfl) (fe_t rfl))) ?_
                                        refine ta_float (i := 15) rfl (by kernel_rfl) (wants_none rfl) (yq_of (y_assign (fe_t rfl))) ?_
                                        refine ta_done (by kernel_rfl) ?_
                                        refine tx_in ?_
                                        refine tx_then ?_
                                        refine tr_region ?_
                                        refine tl_step rfl (oj_val (y_inc (fe_t rfl) fe_c (by omega)) ?_)
                                        refine tl_step rfl (oj_val (y_move (fe_t rfl)) ?_)
                                        refine tl_nil ?_
                                        apply tx_back3 (k + 1) (_) ((⟨_, _, _, _⟩ : Vs))
                                        · exact (cov_cons (by first | rfl | exact v_int (by omega) | exact v_bool (by simp [*])) (cov_cons (by first | rfl | exact v_int (by omega) | exact v_bool (by simp [*])) (cov_nil)))
                                        · repeat (first | exact over_nil | refine over_put rfl ?_ | refine over_drop rfl ?_)
                                        · exact fun w h => h.pick [1, 2, 3, 4, 5, 6, 7] _ rfl (by decide)
                                        · have hsg := sums_get (a := za) (b := zb) (k := k) (by omega) (by omega)
                                          have hlt : k < (sums za zb).length := by rw [sums_len (by omega)]; omega
                                          refine ⟨⟨by omega, ?_, by dsimp only; omega, ?_⟩, by omega⟩
                                          · rw [any_succ _ _ _ hlt, hsg, ← hfb]
                                            clear hfb hs1x
                                            simp [*]
                                          · dsimp only
                                            rw [hs1x, List.take_succ_eq_append_getElem hlt, cI, cI, List.map_append, hsg]
                                            rfl
                              · try (exfalso; omega)
                                all_goals
                                  refine tr_exit ?_
                                  refine tx_then_exit ?_
                                  refine tx_then_exit ?_
                                  refine tx_in_exit ?_
                                  refine tx_then ?_
                                  refine tr_seq ?_
                                  refine tr_seq ?_
                                  refine tr_region ?_
                                  refine tl_step rfl (oj_val (y_move (fe_t rfl)) ?_)
                                  refine tl_nil ?_
                                  refine tx_then ?_
                                  refine tr_cond (fe_t rfl) (fun hq69 => ?_) (fun hq70 => ?_)
                                  · exfalso; rw [hfb, List.take_of_length_le (by rw [sums_len (by omega)]; omega)] at hq69; rw [full] at hf; rw [hf] at hq69; cases hq69
                                  · try (exfalso; omega)
                                    all_goals
                                      refine tr_skip ?_
                                      refine tx_then ?_
                                      refine tr_seq ?_
                                      refine tr_region ?_
                                      refine tl_step rfl (oj_val (y_move (fe_t rfl)) ?_)
                                      refine tl_step rfl (oj_val (y_eq (fe_t rfl) fe_c) ?_)
                                      refine tl_step rfl (oj_val (y_move (fe_t rfl)) ?_)
                                      refine tl_splitp (d := 146) rfl (fun hq71 => ?_) (fun hq72 => ?_)
                                      · try (exfalso; omega)
                                        all_goals
                                          refine tl_want rfl rfl rfl (oj_val (y_ldbA 2 Try.isAgg33 Try.sizeOf33 (fe_t rfl) rfl rfl rfl) ?_)
                                          refine tl_want rfl rfl rfl (oj_val (y_ldbA 1 Try.isAgg33 Try.sizeOf33 (fe_t rfl) rfl rfl rfl) ?_)
                                          refine tl_want rfl rfl rfl (oj_callv Try.call21 fe_f (fel_cons (fe_t rfl) (fel_cons (fe_t rfl) fel_nil)) (fun w' hS => same_eq r1 x1 q.1 s1.A za.length s1.n q.2 s1.c (sums za zb) w' (OwnV.rd (hS.holds 3 _ rfl)).2.2 (by have h := (OwnV.rd (hS.holds 0 _ rfl)).2.2; rw [hs1x, List.take_of_length_le (by rw [sums_len (by omega)]; omega)] at h; exact h) (by rw [sums_len (by omega)]) (by omega) (by omega)) ?_)
                                          refine tl_step rfl (oj_val (y_pickt (fe_t rfl) (fe_t rfl)) ?_)
                                          refine tl_step rfl (oj_val (y_assign (fe_t rfl)) ?_)
                                          refine tl_nil ?_
                                          refine tx_then ?_
                                          refine tr_ret ?_
                                          refine tx_ret (res1 Try.results4 (rok_t rfl)) (fun w' hS => ?_)
                                          exact ⟨ret_bool (by first | rfl | (simp; done)), hS.pick [] _ rfl (by decide)⟩
                                      · try (exfalso; omega)
                                        all_goals
                                          refine tl_skip rfl rfl rfl rfl ?_
                                          refine tl_skip rfl rfl rfl rfl ?_
                                          refine tl_skip rfl rfl rfl rfl ?_
                                          refine tl_step rfl (oj_val (y_pickf (fe_t rfl) fe_c) ?_)
                                          refine tl_step rfl (oj_val (y_assign (fe_t rfl)) ?_)
                                          refine tl_nil ?_
                                          refine tx_then ?_
                                          refine tr_ret ?_
                                          refine tx_ret (res1 Try.results4 (rok_t rfl)) (fun w' hS => ?_)
                                          exact ⟨ret_bool (by first | rfl | (simp; done)), hS.pick [] _ rfl (by decide)⟩
              · exfalso; omega

set_option maxRecDepth 100000 in
set_option maxHeartbeats 4000000 in
theorem walk_ok_ok (rows width r1 x1 : Int) (A B : Option Addr) (n c d : Nat) (za zb : List Int) (w : World) (hr : Rd w A (za.map (.int .i64))) (hr' : Rd w B (zb.map (.int .i64))) (hn : za.length = n) (hm : zb.length = n) (ln : n ≤ 140737488355328) (hd : dims rows width = true) (va : vright r1 x1 za = true) (vb : vright r1 x1 zb = true) (hf : full za zb = false) :
    Calls Try.prog 4 #[(.int .i64 rows), (.int .i64 width), .agg #[(.int .i64 r1), (.int .i64 x1), .slice A n c], .agg #[(.int .i64 r1), (.int .i64 x1), .slice B n d]] w fun e w' => e = .returned (.bool true) ∧ E.St w w' [] := by
  obtain ⟨⟨d0, d1⟩, d2, d3⟩ := dims_iff.1 hd
  have hp := dims_prod hd
  obtain ⟨k0, hk0⟩ : ∃ k0 : Nat, rows * width = k0 := ⟨(rows * width).toNat, by omega⟩
  have hpos : 1 ≤ n ∧ n ≤ 512 := by
    have va' := va
    simp only [vright, Bool.and_eq_true, beq_iff_eq] at va'
    have := dims_prod va'.1.1
    omega
  refine calls_tr Try.func4 Try.ntmps4 rfl rfl (St.refl _) ?_
  refine tr_seq ?_
  refine tr_region ?_
  refine tl_step rfl (oj_box (fe_t rfl) (fun b1 => ?_))
  refine tl_step rfl (oj_box (fe_t rfl) (fun b2 => ?_))
  refine tl_step rfl (oj_val (y_assign fe_c) ?_)
  refine tl_nil ?_
  refine tx_then ?_
  refine tr_seq ?_
  refine tr_region ?_
  refine tl_step rfl (oj_val (y_move (fe_t rfl)) ?_)
  refine tl_step rfl (oj_val (y_move (fe_t rfl)) ?_)
  refine tl_step rfl (oj_call Try.call19 fe_f (fel_cons (fe_t rfl) (fel_cons (fe_t rfl) fel_nil)) (fun w' hS => snew_ok rows width k0 w' hd hk0) (fun g0 hg0 => ?_))
  refine tl_step rfl (oj_val (y_move (fe_t rfl)) ?_)
  refine tl_step rfl (oj_val (y_extract (fe_t rfl) rfl) ?_)
  refine tl_step rfl (oj_val (y_extract (fe_t rfl) rfl) ?_)
  refine tl_step rfl (oj_alloc Try.zeroValue33 (fun b3 => ?_))
  refine tl_step rfl (oj_storeW 0 Try.sizeOf33 (fe_t rfl) (fe_t rfl) rfl rfl rfl rfl rfl (?_))
  refine tl_step rfl (oj_val (y_assign (fe_t rfl)) ?_)
  refine tl_nil ?_
  refine tx_then ?_
  refine tr_seq ?_
  refine tr_region ?_
  refine tl_step rfl (oj_val (y_ldbA 3 Try.isAgg33 Try.sizeOf33 (fe_t rfl) rfl rfl rfl) ?_)
  refine tl_step rfl (oj_val (y_ldbA 2 Try.isAgg33 Try.sizeOf33 (fe_t rfl) rfl rfl rfl) ?_)
  refine tl_step rfl (oj_call Try.call20 fe_f (fel_cons (fe_t rfl) (fel_cons (fe_t rfl) fel_nil)) (fun w' hS => sjoin_ok r1 x1 A B n c d za zb w' (Rd.below hr hS.below) (Rd.below hr' hS.below) hn hm va vb hf) (fun q hq => ?_))
  refine tl_step rfl (oj_val (y_move (fe_t rfl)) ?_)
  refine tl_step rfl (oj_val (y_extract (fe_t rfl) rfl) ?_)
  refine tl_step rfl (oj_val (y_extract (fe_t rfl) rfl) ?_)
  refine tl_step rfl (oj_alloc Try.zeroValue33 (fun b4 => ?_))
  refine tl_step rfl (oj_storeW 0 Try.sizeOf33 (fe_t rfl) (fe_t rfl) rfl rfl rfl rfl rfl (?_))
  refine tl_step rfl (oj_val (y_assign (fe_t rfl)) ?_)
  refine tl_nil ?_
  refine tx_then ?_
  refine tr_seq ?_
  refine tr_seq ?_
  refine tr_region ?_
  refine tl_step rfl (oj_val (y_move (fe_t rfl)) ?_)
  refine tl_step rfl (oj_val (y_lss (fe_t rfl) fe_c) ?_)
  refine tl_step rfl (oj_val (y_move (fe_t rfl)) ?_)
  refine tl_splitp (d := 30) rfl (fun hq1 => ?_) (fun hq2 => ?_)
  · try (exfalso; omega)
    all_goals
      refine tl_skip rfl rfl rfl rfl ?_
      refine tl_skip rfl rfl rfl rfl ?_
      refine tl_step rfl (oj_val (y_pickt (fe_t rfl) fe_c) ?_)
      refine tl_step rfl (oj_val (y_move (fe_t rfl)) ?_)
      refine tl_skip rfl rfl rfl rfl ?_
      refine tl_skip rfl rfl rfl rfl ?_
      refine tl_step rfl (oj_val (y_pickt (fe_t rfl) fe_c) ?_)
      refine tl_step rfl (oj_val (y_move (fe_t rfl)) ?_)
      refine tl_skip rfl rfl rfl rfl ?_
      refine tl_skip rfl rfl rfl rfl ?_
      refine tl_step rfl (oj_val (y_pickt (fe_t rfl) fe_c) ?_)
      refine tl_nil ?_
      refine tx_then ?_
      exfalso; omega
  · try (exfalso; omega)
    all_goals
      refine tl_want rfl rfl rfl (oj_val (y_move (fe_t rfl)) ?_)
      refine tl_want rfl rfl rfl (oj_val (y_gtr (fe_t rfl) fe_c) ?_)
      refine tl_step rfl (oj_val (y_pickf (fe_t rfl) (fe_t rfl)) ?_)
      refine tl_step rfl (oj_val (y_move (fe_t rfl)) ?_)
      refine tl_splitp (d := 34) rfl (fun hq3 => ?_) (fun hq4 => ?_)
      · try (exfalso; omega)
        all_goals
          refine tl_skip rfl rfl rfl rfl ?_
          refine tl_skip rfl rfl rfl rfl ?_
          refine tl_step rfl (oj_val (y_pickt (fe_t rfl) fe_c) ?_)
          refine tl_step rfl (oj_val (y_move (fe_t rfl)) ?_)
          refine tl_skip rfl rfl rfl rfl ?_
          refine tl_skip rfl rfl rfl rfl ?_
          refine tl_step rfl (oj_val (y_pickt (fe_t rfl) fe_c) ?_)
          refine tl_nil ?_
          refine tx_then ?_
          exfalso; omega
      · try (exfalso; omega)
        all_goals
          refine tl_want rfl rfl rfl (oj_val (y_move (fe_t rfl)) ?_)
          refine tl_want rfl rfl rfl (oj_val (y_lss (fe_t rfl) fe_c) ?_)
          refine tl_step rfl (oj_val (y_pickf (fe_t rfl) (fe_t rfl)) ?_)
          refine tl_step rfl (oj_val (y_move (fe_t rfl)) ?_)
          refine tl_splitp (d := 38) rfl (fun hq5 => ?_) (fun hq6 => ?_)
          · try (exfalso; omega)
            all_goals
              refine tl_skip rfl rfl rfl rfl ?_
              refine tl_skip rfl rfl rfl rfl ?_
              refine tl_step rfl (oj_val (y_pickt (fe_t rfl) fe_c) ?_)
              refine tl_nil ?_
              refine tx_then ?_
              exfalso; omega
          · try (exfalso; omega)
            all_goals
              refine tl_want rfl rfl rfl (oj_val (y_move (fe_t rfl)) ?_)
              refine tl_want rfl rfl rfl (oj_val (y_gtr (fe_t rfl) fe_c) ?_)
              refine tl_step rfl (oj_val (y_pickf (fe_t rfl) (fe_t rfl)) ?_)
              refine tl_nil ?_
              refine tx_then ?_
              refine tr_condp (fe_t rfl) (fun hq7 => ?_) (fun hq8 => ?_)
              · exfalso; omega
              · try (exfalso; omega)
                all_goals
                  refine tr_seq ?_
                  refine tr_draw (sel _ [0, 1, 2, 3, 4, 5]) (fun w h => h.sel _ rfl (by decide)) rfl ?_
                  refine ta_float (i := 0) rfl (by kernel_rfl) (wants_none rfl) (yq_of (y_move (fe_t rfl))) ?_
                  refine ta_float (i := 1) rfl (by kernel_rfl) (wants_none rfl) (yq_of (y_neq (fe_t rfl) fe_c)) ?_
                  refine ta_float (i := 2) rfl (by kernel_rfl) (wants_none rfl) (yq_of (y_move (fe_t rfl))) ?_
                  refine ta_splitp (d := 52) rfl (fun hq9 => ?_) (fun hq10 => ?_)
                  · try (exfalso; omega)
                    all_goals
                      refine ta_skip (i := 3) rfl (by kernel_rfl) (wants_f rfl rfl rfl rfl) ?_
                      refine ta_skip (i := 4) rfl (by kernel_rfl) (wants_f rfl rfl rfl rfl) ?_
                      refine ta_skip (i := 5) rfl (by kernel_rfl) (wants_f rfl rfl rfl rfl) ?_
                      refine ta_skip (i := 6) rfl (by kernel_rfl) (wants_f rfl rfl rfl rfl) ?_
                      refine ta_skip (i := 7) rfl (by kernel_rfl) (wants_f rfl rfl rfl rfl) ?_
                      refine ta_skip (i := 8) rfl (by kernel_rfl) (wants_f rfl rfl rfl rfl) ?_
                      refine ta_skip (i := 9) rfl (by kernel_rfl) (wants_f rfl rfl rfl rfl) ?_
                      refine ta_skip (i := 10) rfl (by kernel_rfl) (wants_f rfl rfl rfl rfl) ?_
                      refine ta_skip (i := 11) rfl (by kernel_rfl) (wants_f rfl rfl rfl rfl) ?_
                      refine ta_skip (i := 12) rfl (by kernel_rfl) (wants_f rfl rfl rfl rfl) ?_
                      refine ta_float (i := 13) rfl (by kernel_rfl) (wants_none rfl) (yq_of (y_pickt (fe_t rfl) fe_c)) ?_
                      refine ta_done (by kernel_rfl) ?_
                      refine tx_then ?_
                      exfalso; omega
                  · try (exfalso; omega)
                    all_goals
                      refine ta_float (i := 3) rfl (by kernel_rfl) (wants_t rfl rfl rfl) (yq_of (y_ldbA 2 Try.isAgg33 Try.sizeOf33 (fe_t rfl) rfl rfl rfl)) ?_
                      refine ta_float (i := 4) rfl (by kernel_rfl) (wants_t rfl rfl rfl) (yq_of (y_move (fe_t rfl))) ?_
                      refine ta_float (i := 5) rfl (by kernel_rfl) (wants_t rfl rfl rfl) (yq_of (y_move (fe_t rfl))) ?_
                      refine ta_float (i := 6) rfl (by kernel_rfl) (wants_t rfl rfl rfl) (yq_of (y_move (fe_t rfl))) ?_
                      refine ta_float (i := 7) rfl (by kernel_rfl) (wants_t rfl rfl rfl) (yq_of (y_move (fe_t rfl))) ?_
                      refine ta_float (i := 8) rfl (by kernel_rfl) (wants_t rfl rfl rfl) (yq_of (y_mul (fe_t rfl) (fe_t rfl) (by omega))) ?_
                      refine ta_one (i := 9) rfl (by kernel_rfl) (wants_t rfl rfl rfl) (oj_make (n := k0) (z := (.int .i64 0)) (bytes := 8) Try.underlying31 (by kernel_rfl) (fe_i hk0 rfl) (fe_i hk0 rfl) rfl ⟨by omega, by decide⟩ (fun g => ⟨fun w h => h.pick [1, 2, 3, 4, 5, 6] _ rfl (by decide), ?_⟩))
                      refine ta_float (i := 10) rfl (by kernel_rfl) (wants_t rfl rfl rfl) (yq_of ((fun {u0 u1 u2} hx hb => y_build (is := [0, 1, 2]) (vs := [u0, u1, u2]) (cs := [u0, u1, u2]) rfl hx hb) (fel_cons (fe_t rfl) (fel_cons (fe_t rfl) (fel_cons (fe_t rfl) fel_nil))) (by kernel_rfl))) ?_
                      refine ta_one (i := 11) rfl (by kernel_rfl) (wants_t rfl rfl rfl) (oj_callv Try.call21 fe_f (fel_cons (fe_t rfl) (fel_cons (fe_t rfl) fel_nil)) (fun w' hS => of_bel (same_any rows width _ _ k0 k0 k0 (List.replicate k0 0) w' (by simpa [RdI] using (OwnV.rd (hS.holds 4 _ rfl)).2.2) (by simpa [RdI] using (OwnV.rd (hS.holds 0 _ rfl)).2.2) (by simp) (by omega))) (⟨fun w h => h.pick [1, 2, 3, 4, 5, 6] _ rfl (by decide), ?_⟩))
                      refine ta_float (i := 12) rfl (by kernel_rfl) (wants_t rfl rfl rfl) (yq_of (y_not (fe_t rfl))) ?_
                      refine ta_float (i := 13) rfl (by kernel_rfl) (wants_none rfl) (yq_of (y_pickf (fe_t rfl) (fe_t rfl))) ?_
                      refine ta_done (by kernel_rfl) ?_
                      refine tx_then ?_
                      refine tr_condf (fe_t rfl) ?_
                      refine tr_skip ?_
                      refine tx_then ?_
                      refine tr_seq ?_
                      refine tr_seq ?_
                      refine tr_region ?_
                      refine tl_step rfl (oj_val (y_ldbA 6 Try.isAgg33 Try.sizeOf33 (fe_t rfl) rfl rfl rfl) ?_)
                      refine tl_step rfl (oj_callv Try.call22 fe_f (fel_cons (fe_t rfl) fel_nil) (fun w' hS => of_bel (vright_yes A n c w' (Rd.below hr hS.below) hn (by omega) va)) ?_)
                      refine tl_step rfl (oj_val (y_not (fe_t rfl)) ?_)
                      refine tl_step rfl (oj_val (y_move (fe_t rfl)) ?_)
                      refine tl_want rfl rfl rfl (oj_val (y_ldbA 5 Try.isAgg33 Try.sizeOf33 (fe_t rfl) rfl rfl rfl) ?_)
                      refine tl_want rfl rfl rfl (oj_callv Try.call22 fe_f (fel_cons (fe_t rfl) fel_nil) (fun w' hS => of_bel (vright_yes B n d w' (Rd.below hr' hS.below) hm (by omega) vb)) ?_)
                      refine tl_want rfl rfl rfl (oj_val (y_not (fe_t rfl)) ?_)
                      refine tl_step rfl (oj_val (y_pickf (fe_t rfl) (fe_t rfl)) ?_)
                      refine tl_step rfl (oj_val (y_move (fe_t rfl)) ?_)
                      refine tl_want rfl rfl rfl (oj_val (y_fieldAddr (td := 3) Try.underlying33 rfl rfl Try.sizeOf3 (o' := 0) rfl (fe_t rfl)) ?_)
                      refine tl_want rfl rfl rfl (oj_val (y_ldb 6 Try.isAgg3 (fe_t rfl) rfl rfl) ?_)
                      refine tl_want rfl rfl rfl (oj_val (y_fieldAddr (td := 3) Try.underlying33 rfl rfl Try.sizeOf3 (o' := 0) rfl (fe_t rfl)) ?_)
                      refine tl_want rfl rfl rfl (oj_val (y_ldb 5 Try.isAgg3 (fe_t rfl) rfl rfl) ?_)
                      refine tl_want rfl rfl rfl (oj_val (y_neq (fe_t rfl) (fe_t rfl)) ?_)
                      refine tl_step rfl (oj_val (y_pickf (fe_t rfl) (fe_t rfl)) ?_)
                      refine tl_step rfl (oj_val (y_move (fe_t rfl)) ?_)
                      refine tl_splitp (d := 79) rfl (fun hq11 => ?_) (fun hq12 => ?_)
                      · try (exfalso; omega)
                        all_goals
                          refine tl_skip rfl rfl rfl rfl ?_
                          refine tl_skip rfl rfl rfl rfl ?_
                          refine tl_skip rfl rfl rfl rfl ?_
                          refine tl_skip rfl rfl rfl rfl ?_
                          refine tl_skip rfl rfl rfl rfl ?_
                          refine tl_step rfl (oj_val (y_pickt (fe_t rfl) fe_c) ?_)
                          refine tl_nil ?_
                          refine tx_then ?_
                          exfalso; omega
                      · try (exfalso; omega)
                        all_goals
                          refine tl_want rfl rfl rfl (oj_val (y_fieldAddr (td := 3) Try.underlying33 rfl rfl Try.sizeOf3 (o' := 1) rfl (fe_t rfl)) ?_)
                          refine tl_want rfl rfl rfl (oj_val (y_ldb 6 Try.isAgg3 (fe_t rfl) rfl rfl) ?_)
                          refine tl_want rfl rfl rfl (oj_val (y_fieldAddr (td := 3) Try.underlying33 rfl rfl Try.sizeOf3 (o' := 1) rfl (fe_t rfl)) ?_)
                          refine tl_want rfl rfl rfl (oj_val (y_ldb 5 Try.isAgg3 (fe_t rfl) rfl rfl) ?_)
                          refine tl_want rfl rfl rfl (oj_val (y_neq (fe_t rfl) (fe_t rfl)) ?_)
                          refine tl_step rfl (oj_val (y_pickf (fe_t rfl) (fe_t rfl)) ?_)
                          refine tl_nil ?_
                          refine tx_then ?_
                          refine tr_condp (fe_t rfl) (fun hq13 => ?_) (fun hq14 => ?_)
                          · exfalso; omega
                          · try (exfalso; omega)
                            all_goals
                              refine tr_skip ?_
                              refine tx_then ?_
                              refine tr_seq ?_
                              refine tr_region ?_
                              refine tl_step rfl (oj_val (y_fieldAddr (td := 3) Try.underlying33 rfl rfl Try.sizeOf3 (o' := 0) rfl (fe_t rfl)) ?_)
                              refine tl_step rfl (oj_val (y_ldb 6 Try.isAgg3 (fe_t rfl) rfl rfl) ?_)
                              refine tl_step rfl (oj_val (y_fieldAddr (td := 3) Try.underlying33 rfl rfl Try.sizeOf3 (o' := 1) rfl (fe_t rfl)) ?_)
                              refine tl_step rfl (oj_val (y_ldb 6 Try.isAgg3 (fe_t rfl) rfl rfl) ?_)
                              refine tl_step rfl (oj_val ((fun {u0 u1} hx hb => y_build (is := [0, 1]) (vs := [u0, u1]) (cs := [u0, u1, .slice none 0 0]) rfl hx hb) (fel_cons (fe_t rfl) (fel_cons (fe_t rfl) fel_nil)) (by kernel_rfl)) ?_)
                              refine tl_step rfl (oj_alloc Try.zeroValue33 (fun wb => ?_))
                              refine tl_step rfl (oj_storeW 0 Try.sizeOf33 (fe_t rfl) (fe_t rfl) rfl rfl rfl rfl rfl (?_))
                              refine tl_nil ?_
                              refine tx_then ?_
                              refine tr_seq ?_
                              refine tr_region ?_
                              refine tl_step rfl (oj_val (y_assign fe_c) ?_)
                              refine tl_nil ?_
                              refine tx_then ?_
                              refine tr_seq ?_
                              refine tr_seq ?_
                              refine tr_region ?_
                              refine tl_step rfl (oj_val (y_fieldAddr (td := 31) Try.underlying33 rfl rfl Try.sizeOf31 (o' := 2) rfl (fe_t rfl)) ?_)
                              refine tl_step rfl (oj_val (y_ldb 7 Try.isAgg31 (fe_t rfl) rfl rfl) ?_)
                              refine tl_step rfl (oj_val (y_len Try.underlying31 (fe_t rfl)) ?_)
                              refine tl_step rfl (oj_val (y_move fe_c) ?_)
                              refine tl_nil ?_
                              refine tx_then ?_
                              refine tr_block ?_
                              refine tr_add (r := vec 3 1 (.slice none 0 0) 0 []) vec_nil rfl ?_
                              refine tr_loop3 [14, 15, 101, 102, 103, 104, 105, 106, 107, 108, 109, 110, 111, 112, 113, 114, 115, 116, 117, 118, 119, 120, 121, 122, 123, 124, 125, 126, 127, 128, 129, 130, 131, 132, 133, 134, 135] (fun (k : Nat) (fb : Bool) (s1 : Vs) => [(101, .int .i64 (k : Int)), (14, .bool fb)]) 0 (fun (k : Nat) (fb : Bool) (s1 : Vs) => [(1, blk wb [.int .i64 r1, .int .i64 x1, .slice s1.A s1.n s1.c]), (0, vec 3 1 (.slice s1.A s1.n s1.c) s1.n s1.xs)]) (fun (k : Nat) (fb : Bool) (s1 : Vs) => k ≤ n ∧ fb = ((sums za zb).take k).any (fun n => decide (1099511627776 < n)) ∧ s1.n = k ∧ s1.xs = cI ((sums za zb).take k)) (fun (k : Nat) (fb : Bool) (s1 : Vs) => n - k) (0) (false) (⟨none, 0, 0, []⟩ : Vs) (cov_cons (by first | rfl | exact v_int (by omega) | exact v_bool (by simp [*])) (cov_cons (by first | rfl | exact v_int (by omega) | exact v_bool (by simp [*])) (cov_nil))) (fun w h => h) ?_ ?_
                              · try dsimp only
                                simp [cI]
                              intro k fb s1 hp
                              obtain ⟨hk, hfb, hs1n, hs1x⟩ := hp
                              refine tr_seq ?_
                              refine tr_region ?_
                              refine tl_step rfl (oj_val (y_lss (fe_t rfl) (fe_t rfl)) ?_)
                              refine tl_nil ?_
                              refine tx_then ?_
                              refine tr_seq ?_
                              refine tr_condp (fe_t rfl) (fun hq15 => ?_) (fun hq16 => ?_)
                              · try (exfalso; omega)
                                all_goals
                                  refine tr_skip ?_
                                  refine tx_then ?_
                                  refine tr_seq ?_
                                  refine tr_block ?_
                                  refine tr_seq ?_
                                  refine tr_region ?_
                                  refine tl_step rfl (oj_val (y_move (fe_t rfl)) ?_)
                                  refine tl_step rfl (oj_val (y_assign (fe_t rfl)) ?_)
                                  refine tl_nil ?_
                                  refine tx_then ?_
                                  refine tr_seq ?_
                                  have hza := good_cells va k (by omega)
                                  have hzb := good_cells vb k (by omega)
                                  refine tr_draw (sel _ [2, 3, 4, 5, 6, 7, 8]) (fun w h => h.sel _ rfl (by decide)) rfl ?_
                                  refine ta_float (i := 0) rfl (by kernel_rfl) (wants_none rfl) (yq_of (y_fieldAddr (td := 31) Try.underlying33 rfl rfl Try.sizeOf31 (o' := 2) rfl (fe_t rfl))) ?_
                                  refine ta_float (i := 2) rfl (by kernel_rfl) (wants_none rfl) (yq_of (y_fieldAddr (td := 31) Try.underlying33 rfl rfl Try.sizeOf31 (o' := 2) rfl (fe_t rfl))) ?_
                                  refine ta_float (i := 3) rfl (by kernel_rfl) (wants_none rfl) (yq_of (y_ldb 6 Try.isAgg31 (fe_t rfl) rfl rfl)) ?_
                                  refine ta_float (i := 4) rfl (by kernel_rfl) (wants_none rfl) (yq_of (y_move (fe_t rfl))) ?_
                                  refine ta_float (i := 5) rfl (by kernel_rfl) (wants_none rfl) (yq_of (y_index Try.underlying31 Try.sizeOf3 (fe_t rfl) (fe_t rfl) (rdl_out hr) (by first | (simp; done) | (simp; omega)) (by decide) (by omega) (Nat.mul_one _))) ?_
                                  refine ta_float (i := 6) rfl (by kernel_rfl) (wants_none rfl) (yq_of (y_ld Try.isAgg3 (fe_t rfl) (rdl_out hr) (getI (by omega)))) ?_
                                  refine ta_float (i := 7) rfl (by kernel_rfl) (wants_none rfl) (yq_of (y_fieldAddr (td := 31) Try.underlying33 rfl rfl Try.sizeOf31 (o' := 2) rfl (fe_t rfl))) ?_
                                  refine ta_float (i := 8) rfl (by kernel_rfl) (wants_none rfl) (yq_of (y_ldb 5 Try.isAgg31 (fe_t rfl) rfl rfl)) ?_
                                  refine ta_float (i := 9) rfl (by kernel_rfl) (wants_none rfl) (yq_of (y_move (fe_t rfl))) ?_
                                  refine ta_float (i := 10) rfl (by kernel_rfl) (wants_none rfl) (yq_of (y_index Try.underlying31 Try.sizeOf3 (fe_t rfl) (fe_t rfl) (rdl_out hr') (by first | (simp; done) | (simp; omega)) (by decide) (by omega) (Nat.mul_one _))) ?_
                                  refine ta_float (i := 11) rfl (by kernel_rfl) (wants_none rfl) (yq_of (y_ld Try.isAgg3 (fe_t rfl) (rdl_out hr') (getI (by omega)))) ?_
                                  refine ta_float (i := 12) rfl (by kernel_rfl) (wants_none rfl) (yq_of (y_add (fe_t rfl) (fe_t rfl) (by omega))) ?_
                                  refine ta_two (i := 1) (j := 13) rfl rfl (by kernel_rfl) (wants_none rfl) (wants_none rfl) ?_ ?_
                                  · refine oj_val (y_ldb 1 Try.isAgg31 (fe_t rfl) rfl rfl) (⟨fun w h => h.pick [2, 3, 4, 5, 6, 7, 8] _ rfl (by decide), ?_⟩)
                                    refine ta_one (i := 13) rfl (by kernel_rfl) (wants_none rfl) (oj_slice1 Try.underlying31 Try.sizeOf3 Try.zeroValue3 (fe_t rfl) (by decide) rfl (fun b5 => ⟨fun w h => h.pick [3, 4, 5, 6, 7, 8, 9] _ rfl (by decide), ?_⟩))
                                    refine ta_one (i := 14) rfl (by kernel_rfl) (wants_none rfl) (oj_append (i := 1) (s := 1) (z := (.int .i64 0)) (bytes := 8) Try.underlying31 (by kernel_rfl) (fe_t rfl) (fe_t rfl) rfl (rdl_blk 0 rfl) rfl (by decide) (by first | exact oneI | exact oneF (fun _ => rfl) | exact fun u hu => List.all_eq_true.1 (show List.all _ (fun x => x.oneCell') = true from rfl) u hu | (intro u hu; revert u hu; simp [Value.oneCell'])) (by decide) ⟨by omega, by decide⟩ (fun Aa1 ca1 hca1 => ⟨fun w h => h.pick [3, 4, 5, 6, 7, 8, 9] _ rfl (by decide), ?_⟩))
                                    refine ta_float (i := 15) rfl (by kernel_rfl) (wants_none rfl) (yq_of (y_fieldAddr (td := 31) Try.underlying33 rfl rfl Try.sizeOf31 (o' := 2) rfl (fe_t rfl))) ?_
                                    refine ta_one (i := 16) rfl (by kernel_rfl) (wants_none rfl) (oj_store1 2 Try.sizeOf31 (fe_t rfl) (fe_t rfl) rfl rfl rfl rfl (⟨fun w h => h.pick [3, 4, 5, 6, 7, 8, 9] _ rfl (by decide), ?_⟩))
                                    refine ta_done (by kernel_rfl) ?_
                                    refine tx_then ?_
                                    refine tr_draw (sel _ [0, 1, 2, 3, 4, 5, 6, 7, 8, 9]) (fun w h => h.sel _ rfl (by decide)) rfl ?_
                                    refine ta_float (i := 0) rfl (by kernel_rfl) (wants_none rfl) (yq_of (y_move (fe_t rfl))) ?_
                                    refine ta_float (i := 1) rfl (by kernel_rfl) (wants_none rfl) (yq_of (y_move (fe_t rfl))) ?_
                                    refine ta_split (d := 121) rfl (fun hq17 => ?_) (fun hq18 => ?_)
                                    · try (exfalso; omega)
                                      all_goals
                                        refine ta_skip (i := 2) rfl (by kernel_rfl) (wants_f rfl rfl rfl rfl) ?_
                                        refine ta_skip (i := 3) rfl (by kernel_rfl) (wants_f rfl rfl rfl rfl) ?_
                                        refine ta_skip (i := 4) rfl (by kernel_rfl) (wants_f rfl rfl rfl rfl) ?_
                                        refine ta_skip (i := 5) rfl (by kernel_rfl) (wants_f rfl rfl rfl rfl) ?_
                                        refine ta_skip (i := 6) rfl (by kernel_rfl) (wants_f rfl rfl rfl rfl) ?_
                                        refine ta_skip (i := 7) rfl (by kernel_rfl) (wants_f rfl rfl rfl rfl) ?_
                                        refine ta_skip (i := 8) rfl (by kernel_rfl) (wants_f rfl rfl rfl rfl) ?_
                                        refine ta_skip (i := 9) rfl (by kernel_rfl) (wants_f rfl rfl rfl rfl) ?_
                                        refine ta_skip (i := 10) rfl (by kernel_rfl) (wants_f rfl rfl rfl rfl) ?_
                                        refine ta_skip (i := 11) rfl (by kernel_rfl) (wants_f rfl rfl rfl rfl) ?_
                                        refine ta_skip (i := 12) rfl (by kernel_rfl) (wants_f rfl rfl rfl rfl) ?_
                                        refine ta_skip (i := 13) rfl (by kernel_rfl) (wants_f rfl rfl rfl rfl) ?_
                                        refine ta_float (i := 14) rfl (by kernel_rfl) (wants_none rfl) (yq_of (y_pickt (fe_t rfl) fe_c)) ?_
                                        refine ta_float (i := 15) rfl (by kernel_rfl) (wants_none rfl) (yq_of (y_assign (fe_t rfl))) ?_
                                        refine ta_done (by kernel_rfl) ?_
                                        refine tx_in ?_
                                        refine tx_then ?_
                                        refine tr_region ?_
                                        refine tl_step rfl (oj_val (y_inc (fe_t rfl) fe_c (by omega)) ?_)
                                        refine tl_step rfl (oj_val (y_move (fe_t rfl)) ?_)
                                        refine tl_nil ?_
                                        apply tx_back3 (k + 1) (true) ((⟨_, _, _, _⟩ : Vs))
                                        · exact (cov_cons (by first | rfl | exact v_int (by omega) | exact v_bool (by simp [*])) (cov_cons (by first | rfl | exact v_int (by omega) | exact v_bool (by simp [*])) (cov_nil)))
                                        · repeat (first | exact over_nil | refine over_put rfl ?_ | refine over_drop rfl ?_)
                                        · exact fun w h => h.pick [1, 2, 3, 4, 5, 6, 7, 8, 9] _ rfl (by decide)
                                        · have hsg := sums_get (a := za) (b := zb) (k := k) (by omega) (by omega)
                                          have hlt : k < (sums za zb).length := by rw [sums_len (by omega)]; omega
                                          refine ⟨⟨by omega, ?_, by dsimp only; omega, ?_⟩, by omega⟩
                                          · rw [any_succ _ _ _ hlt, hsg, ← hfb]
                                            clear hfb hs1x
                                            simp [*]
                                          · dsimp only
                                            rw [hs1x, List.take_succ_eq_append_getElem hlt, cI, cI, List.map_append, hsg]
                                            rfl
                                    · try (exfalso; omega)
                                      all_goals
                                        refine ta_float (i := 2) rfl (by kernel_rfl) (wants_t rfl rfl rfl) (yq_of (y_fieldAddr (td := 31) Try.underlying33 rfl rfl Try.sizeOf31 (o' := 2) rfl (fe_t rfl))) ?_
                                        refine ta_float (i := 3) rfl (by kernel_rfl) (wants_t rfl rfl rfl) (yq_of (y_ldb 9 Try.isAgg31 (fe_t rfl) rfl rfl)) ?_
                                        refine ta_float (i := 4) rfl (by kernel_rfl) (wants_t rfl rfl rfl) (yq_of (y_move (fe_t rfl))) ?_
                                        refine ta_float (i := 5) rfl (by kernel_rfl) (wants_t rfl rfl rfl) (yq_of (y_index Try.underlying31 Try.sizeOf3 (fe_t rfl) (fe_t rfl) (rdl_out hr) (by first | (simp; done) | (simp; omega)) (by decide) (by omega) (Nat.mul_one _))) ?_
                                        refine ta_float (i := 6) rfl (by kernel_rfl) (wants_t rfl rfl rfl) (yq_of (y_ld Try.isAgg3 (fe_t rfl) (rdl_out hr) (getI (by omega)))) ?_
                                        refine ta_float (i := 7) rfl (by kernel_rfl) (wants_t rfl rfl rfl) (yq_of (y_fieldAddr (td := 31) Try.underlying33 rfl rfl Try.sizeOf31 (o' := 2) rfl (fe_t rfl))) ?_
                                        refine ta_float (i := 8) rfl (by kernel_rfl) (wants_t rfl rfl rfl) (yq_of (y_ldb 8 Try.isAgg31 (fe_t rfl) rfl rfl)) ?_
                                        refine ta_float (i := 9) rfl (by kernel_rfl) (wants_t rfl rfl rfl) (yq_of (y_move (fe_t rfl))) ?_
                                        refine ta_float (i := 10) rfl (by kernel_rfl) (wants_t rfl rfl rfl) (yq_of (y_index Try.underlying31 Try.sizeOf3 (fe_t rfl) (fe_t rfl) (rdl_out hr') (by first | (simp; done) | (simp; omega)) (by decide) (by omega) (Nat.mul_one _))) ?_
                                        refine ta_float (i := 11) rfl (by kernel_rfl) (wants_t rfl rfl rfl) (yq_of (y_ld Try.isAgg3 (fe_t rfl) (rdl_out hr') (getI (by omega)))) ?_
                                        refine ta_float (i := 12) rfl (by kernel_rfl) (wants_t rfl rfl rfl) (yq_of (y_add (fe_t rfl) (fe_t rfl) (by omega))) ?_
                                        refine ta_float (i := 13) rfl (by kernel_rfl) (wants_t rfl rfl rfl) (yq_of (y_gtr (fe_t rfl) fe_c)) ?_
                                        refine ta_float (i := 14) rfl (by kernel_rfl) (wants_none rfl) (yq_of (y_pickf (fe_t rfl) (fe_t rfl))) ?_
                                        refine ta_float (i := 15) rfl (by kernel_rfl) (wants_none rfl) (yq_of (y_assign (fe_t rfl))) ?_
                                        refine ta_done (by kernel_rfl) ?_
                                        refine tx_in ?_
                                        refine tx_then ?_
                                        refine tr_region ?_
                                        refine tl_step rfl (oj_val (y_inc (fe_t rfl) fe_c (by omega)) ?_)
                                        refine tl_step rfl (oj_val (y_move (fe_t rfl)) ?_)
                                        refine tl_nil ?_
                                        apply tx_back3 (k + 1) (_) ((⟨_, _, _, _⟩ : Vs))
                                        · exact (cov_cons (by first | rfl | exact v_int (by omega) | exact v_bool (by simp [*])) (cov_cons (by first | rfl | exact v_int (by omega) | exact v_bool (by simp [*])) (cov_nil)))
                                        · repeat (first | exact over_nil | refine over_put rfl ?_ | refine over_drop rfl ?_)
                                        · exact fun w h => h.pick [1, 2, 3, 4, 5, 6, 7, 8, 9] _ rfl (by decide)
                                        · have hsg := sums_get (a := za) (b := zb) (k := k) (by omega) (by omega)
                                          have hlt : k < (sums za zb).length := by rw [sums_len (by omega)]; omega
                                          refine ⟨⟨by omega, ?_, by dsimp only; omega, ?_⟩, by omega⟩
                                          · rw [any_succ _ _ _ hlt, hsg, ← hfb]
                                            clear hfb hs1x
                                            simp [*]
                                          · dsimp only
                                            rw [hs1x, List.take_succ_eq_append_getElem hlt, cI, cI, List.map_append, hsg]
                                            rfl
                                  · refine oj_slice1 Try.underlying31 Try.sizeOf3 Try.zeroValue3 (fe_t rfl) (by decide) rfl (fun b6 => ⟨fun w h => h.pick [3, 4, 5, 6, 7, 8, 9] _ rfl (by decide), ?_⟩)
                                    refine ta_one (i := 1) rfl (by kernel_rfl) (wants_none rfl) (oj_val (y_ldb 2 Try.isAgg31 (fe_t rfl) rfl rfl) (⟨fun w h => h.pick [3, 4, 5, 6, 7, 8, 9] _ rfl (by decide), ?_⟩))
                                    refine ta_one (i := 14) rfl (by kernel_rfl) (wants_none rfl) (oj_append (i := 1) (s := 1) (z := (.int .i64 0)) (bytes := 8) Try.underlying31 (by kernel_rfl) (fe_t rfl) (fe_t rfl) rfl (rdl_blk 0 rfl) rfl (by decide) (by first | exact oneI | exact oneF (fun _ => rfl) | exact fun u hu => List.all_eq_true.1 (show List.all _ (fun x => x.oneCell') = true from rfl) u hu | (intro u hu; revert u hu; simp [Value.oneCell'])) (by decide) ⟨by omega, by decide⟩ (fun Aa2 ca2 hca2 => ⟨fun w h => h.pick [3, 4, 5, 6, 7, 8, 9] _ rfl (by decide), ?_⟩))
                                    refine ta_float (i := 15) rfl (by kernel_rfl) (wants_none rfl) (yq_of (y_fieldAddr (td := 31) Try.underlying33 rfl rfl Try.sizeOf31 (o' := 2) rfl (fe_t rfl))) ?_
                                    refine ta_one (i := 16) rfl (by kernel_rfl) (wants_none rfl) (oj_store1 2 Try.sizeOf31 (fe_t rfl) (fe_t rfl) rfl rfl rfl rfl (⟨fun w h => h.pick [3, 4, 5, 6, 7, 8, 9] _ rfl (by decide), ?_⟩))
                                    refine ta_done (by kernel_rfl) ?_
                                    refine tx_then ?_
                                    refine tr_draw (sel _ [0, 1, 2, 3, 4, 5, 6, 7, 8, 9]) (fun w h => h.sel _ rfl (by decide)) rfl ?_
                                    refine ta_float (i := 0) rfl (by kernel_rfl) (wants_none rfl) (yq_of (y_move (fe_t rfl))) ?_
                                    refine ta_float (i := 1) rfl (by kernel_rfl) (wants_none rfl) (yq_of (y_move (fe_t rfl))) ?_
                                    refine ta_split (d := 121) rfl (fun hq19 => ?_) (fun hq20 => ?_)
                                    · try (exfalso; omega)
                                      all_goals
                                        refine ta_skip (i := 2) rfl (by kernel_rfl) (wants_f rfl rfl rfl rfl) ?_
                                        refine ta_skip (i := 3) rfl (by kernel_rfl) (wants_f rfl rfl rfl rfl) ?_
                                        refine ta_skip (i := 4) rfl (by kernel_rfl) (wants_f rfl rfl rfl rfl) ?_
                                        refine ta_skip (i := 5) rfl (by kernel_rfl) (wants_f rfl rfl rfl rfl) ?_
                                        refine ta_skip (i := 6) rfl (by kernel_rfl) (wants_f rfl rfl rfl rfl) ?_
                                        refine ta_skip (i := 7) rfl (by kernel_rfl) (wants_f rfl rfl rfl rfl) ?_
                                        refine ta_skip (i := 8) rfl (by kernel_rfl) (wants_f rfl rfl rfl rfl) ?_
                                        refine ta_skip (i := 9) rfl (by kernel_rfl) (wants_f rfl rfl rfl rfl) ?_
                                        refine ta_skip (i := 10) rfl (by kernel_rfl) (wants_f rfl rfl rfl rfl) ?_
                                        refine ta_skip (i := 11) rfl (by kernel_rfl) (wants_f rfl rfl rfl rfl) ?_
                                        refine ta_skip (i := 12) rfl (by kernel_rfl) (wants_f rfl rfl rfl rfl) ?_
                                        refine ta_skip (i := 13) rfl (by kernel_rfl) (wants_f rfl rfl rfl rfl) ?_
                                        refine ta_float (i := 14) rfl (by kernel_rfl) (wants_none rfl) (yq_of (y_pickt (fe_t rfl) fe_c)) ?_
                                        refine ta_float (i := 15) rfl (by kernel_rfl) (wants_none rfl) (yq_of (y_assign (fe_t rfl))) ?_
                                        refine ta_done (by kernel_rfl) ?_
                                        refine tx_in ?_
                                        refine tx_then ?_
                                        refine tr_region ?_
                                        refine tl_step rfl (oj_val (y_inc (fe_t rfl) fe_c (by omega)) ?_)
                                        refine tl_step rfl (oj_val (y_move (fe_t rfl)) ?_)
                                        refine tl_nil ?_
                                        apply tx_back3 (k + 1) (true) ((⟨_, _, _, _⟩ : Vs))
                                        · exact (cov_cons (by first | rfl | exact v_int (by omega) | exact v_bool (by simp [*])) (cov_cons (by first | rfl | exact v_int (by omega) | exact v_bool (by simp [*])) (cov_nil)))
                                        · repeat (first | exact over_nil | refine over_put rfl ?_ | refine over_drop rfl ?_)
                                        · exact fun w h => h.pick [1, 2, 3, 4, 5, 6, 7, 8, 9] _ rfl (by decide)
                                        · have hsg := sums_get (a := za) (b := zb) (k := k) (by omega) (by omega)
                                          have hlt : k < (sums za zb).length := by rw [sums_len (by omega)]; omega
                                          refine ⟨⟨by omega, ?_, by dsimp only; omega, ?_⟩, by omega⟩
                                          · rw [any_succ _ _ _ hlt, hsg, ← hfb]
                                            clear hfb hs1x
                                            simp [*]
                                          · dsimp only
                                            rw [hs1x, List.take_succ_eq_append_getElem hlt, cI, cI, List.map_append, hsg]
                                            rfl
                                    · try (exfalso; omega)
                                      all_goals
                                        refine ta_float (i := 2) rfl (by kernel_rfl) (wants_t rfl rfl rfl) (yq_of (y_fieldAddr (td := 31) Try.underlying33 rfl rfl Try.sizeOf31 (o' := 2) rfl (fe_t rfl))) ?_
                                        refine ta_float (i := 3) rfl (by kernel_rfl) (wants_t rfl rfl rfl) (yq_of (y_ldb 9 Try.isAgg31 (fe_t rfl) rfl rfl)) ?_
                                        refine ta_float (i := 4) rfl (by kernel_rfl) (wants_t rfl rfl rfl) (yq_of (y_move (fe_t rfl))) ?_
                                        refine ta_float (i := 5) rfl (by kernel_rfl) (wants_t rfl rfl rfl) (yq_of (y_index Try.underlying31 Try.sizeOf3 (fe_t rfl) (fe_t rfl) (rdl_out hr) (by first | (simp; done) | (simp; omega)) (by decide) (by omega) (Nat.mul_one _))) ?_
                                        refine ta_float (i := 6) rfl (by kernel_rfl) (wants_t rfl rfl rfl) (yq_of (y_ld Try.isAgg3 (fe_t rfl) (rdl_out hr) (getI (by omega)))) ?_
                                        refine ta_float (i := 7) rfl (by kernel_rfl) (wants_t rfl rfl rfl) (yq_of (y_fieldAddr (td := 31) Try.underlying33 rfl rfl Try.sizeOf31 (o' := 2) rfl (fe_t rfl))) ?_
                                        refine ta_float (i := 8) rfl (by kernel_rfl) (wants_t rfl rfl rfl) (yq_of (y_ldb 8 Try.isAgg31 (fe_t rfl) rfl rfl)) ?_
                                        refine ta_float (i := 9) rfl (by kernel_rfl) (wants_t rfl rfl rfl) (yq_of (y_move (fe_t rfl))) ?_
                                        refine ta_float (i := 10) rfl (by kernel_rfl) (wants_t rfl rfl rfl) (yq_of (y_index Try.underlying31 Try.sizeOf3 (fe_t rfl) (fe_t rfl) (rdl_out hr') (by first | (simp; done) | (simp; omega)) (by decide) (by omega) (Nat.mul_one _))) ?_
                                        refine ta_float (i := 11) rfl (by kernel_rfl) (wants_t rfl rfl rfl) (yq_of (y_ld Try.isAgg3 (fe_t rfl) (rdl_out hr') (getI (by omega)))) ?_
                                        refine ta_float (i := 12) rfl (by kernel_rfl) (wants_t rfl rfl rfl) (yq_of (y_add (fe_t rfl) (fe_t rfl) (by omega))) ?_
                                        refine ta_float (i := 13) rfl (by kernel_rfl) (wants_t rfl rfl rfl) (yq_of (y_gtr (fe_t rfl) fe_c)) ?_
                                        refine ta_float (i := 14) rfl (by kernel_rfl) (wants_none rfl) (yq_of (y_pickf (fe_t rfl) (fe_t rfl))) ?_
                                        refine ta_float (i := 15) rfl (by kernel_rfl) (wants_none rfl) (yq_of (y_assign (fe_t rfl))) ?_
                                        refine ta_done (by kernel_rfl) ?_
                                        refine tx_in ?_
                                        refine tx_then ?_
                                        refine tr_region ?_
                                        refine tl_step rfl (oj_val (y_inc (fe_t rfl) fe_c (by omega)) ?_)
                                        refine tl_step rfl (oj_val (y_move (fe_t rfl)) ?_)
                                        refine tl_nil ?_
                                        apply tx_back3 (k + 1) (_) ((⟨_, _, _, _⟩ : Vs))
                                        · exact (cov_cons (by first | rfl | exact v_int (by omega) | exact v_bool (by simp [*])) (cov_cons (by first | rfl | exact v_int (by omega) | exact v_bool (by simp [*])) (cov_nil)))
                                        · repeat (first | exact over_nil | refine over_put rfl ?_ | refine over_drop rfl ?_)
                                        · exact fun w h => h.pick [1, 2, 3, 4, 5, 6, 7, 8, 9] _ rfl (by decide)
                                        · have hsg := sums_get (a := za) (b := zb) (k := k) (by omega) (by omega)
                                          have hlt : k < (sums za zb).length := by rw [sums_len (by omega)]; omega
                                          refine ⟨⟨by omega, ?_, by dsimp only; omega, ?_⟩, by omega⟩
                                          · rw [any_succ _ _ _ hlt, hsg, ← hfb]
                                            clear hfb hs1x
                                            simp [*]
                                          · dsimp only
                                            rw [hs1x, List.take_succ_eq_append_getElem hlt, cI, cI, List.map_append, hsg]
                                            rfl
                              · try (exfalso; omega)
                                all_goals
                                  refine tr_exit ?_
                                  refine tx_then_exit ?_
                                  refine tx_then_exit ?_
                                  refine tx_in_exit ?_
                                  refine tx_then ?_
                                  refine tr_seq ?_
                                  refine tr_seq ?_
                                  refine tr_region ?_
                                  refine tl_step rfl (oj_val (y_move (fe_t rfl)) ?_)
                                  refine tl_nil ?_
                                  refine tx_then ?_
                                  refine tr_cond (fe_t rfl) (fun hq21 => ?_) (fun hq22 => ?_)
                                  · exfalso; rw [hfb, List.take_of_length_le (by rw [sums_len (by omega)]; omega)] at hq21; rw [full] at hf; rw [hf] at hq21; cases hq21
                                  · try (exfalso; omega)
                                    all_goals
                                      refine tr_skip ?_
                                      refine tx_then ?_
                                      refine tr_seq ?_
                                      refine tr_region ?_
                                      refine tl_step rfl (oj_val (y_move (fe_t rfl)) ?_)
                                      refine tl_step rfl (oj_val (y_eq (fe_t rfl) fe_c) ?_)
                                      refine tl_step rfl (oj_val (y_move (fe_t rfl)) ?_)
                                      refine tl_splitp (d := 146) rfl (fun hq23 => ?_) (fun hq24 => ?_)
                                      · try (exfalso; omega)
                                        all_goals
                                          refine tl_want rfl rfl rfl (oj_val (y_ldbA 3 Try.isAgg33 Try.sizeOf33 (fe_t rfl) rfl rfl rfl) ?_)
                                          refine tl_want rfl rfl rfl (oj_val (y_ldbA 1 Try.isAgg33 Try.sizeOf33 (fe_t rfl) rfl rfl rfl) ?_)
                                          refine tl_want rfl rfl rfl (oj_callv Try.call21 fe_f (fel_cons (fe_t rfl) (fel_cons (fe_t rfl) fel_nil)) (fun w' hS => same_eq r1 x1 q.1 s1.A za.length s1.n q.2 s1.c (sums za zb) w' (OwnV.rd (hS.holds 4 _ rfl)).2.2 (by have h := (OwnV.rd (hS.holds 0 _ rfl)).2.2; rw [hs1x, List.take_of_length_le (by rw [sums_len (by omega)]; omega)] at h; exact h) (by rw [sums_len (by omega)]) (by omega) (by omega)) ?_)
                                          refine tl_step rfl (oj_val (y_pickt (fe_t rfl) (fe_t rfl)) ?_)
                                          refine tl_step rfl (oj_val (y_assign (fe_t rfl)) ?_)
                                          refine tl_nil ?_
                                          refine tx_then ?_
                                          refine tr_ret ?_
                                          refine tx_ret (res1 Try.results4 (rok_t rfl)) (fun w' hS => ?_)
                                          exact ⟨ret_bool (by first | rfl | (simp; done)), hS.pick [] _ rfl (by decide)⟩
                                      · try (exfalso; omega)
                                        all_goals
                                          refine tl_skip rfl rfl rfl rfl ?_
                                          refine tl_skip rfl rfl rfl rfl ?_
                                          refine tl_skip rfl rfl rfl rfl ?_
                                          refine tl_step rfl (oj_val (y_pickf (fe_t rfl) fe_c) ?_)
                                          refine tl_step rfl (oj_val (y_assign (fe_t rfl)) ?_)
                                          refine tl_nil ?_
                                          refine tx_then ?_
                                          refine tr_ret ?_
                                          refine tx_ret (res1 Try.results4 (rok_t rfl)) (fun w' hS => ?_)
                                          exact ⟨ret_bool (by first | rfl | (simp; done)), hS.pick [] _ rfl (by decide)⟩

end Go.Proofs.Ytdfjeoifeladfaa.SketchJoins
