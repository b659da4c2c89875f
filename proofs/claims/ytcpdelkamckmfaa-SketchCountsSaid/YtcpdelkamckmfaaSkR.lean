/- the sketch: Add, VAdd. -/
import Derived.Test.YtcpdelkamckmfaaSkQ
namespace Go.Proofs.Ytcpdelkamckmfaa.Frac
open Go.RowKit Go.Proofs.Ytcpdelkamckmfaa.E Go.Proofs.Ytcpdelkamckmfaa.Big

set_option maxRecDepth 100000 in
set_option maxHeartbeats 1000000 in
theorem Aadd_bad {r width id nn : Int} {cf : Bool} (A : Option Addr) (n c : Nat) (zs : List Int) (w : World) (hr : Rd w A (zs.map (.int .i64))) (hn : zs.length = n) (va : Sketch.vright r width zs = false) (ln : n ≤ 140737488355328) :
    Calls Try.prog 60 #[.agg #[(.int .i64 r), (.int .i64 width), .slice A n c], .int .u64 id, (.int .i64 nn), .bool cf] w fun e w' => e = .returned (.tuple #[.agg #[(.int .i64 0), (.int .i64 0), .slice none 0 0], (.int .i64 1)]) ∧ St w w' [] := by
  refine calls_tr Try.func60 Try.ntmps60 rfl rfl (St.refl _) ?_
  refine tr_seq ?_
  refine tr_region ?_
  refine tl_step rfl (oj_box (fe_t rfl) (fun b1 => ?_))
  refine tl_step rfl (oj_alloc Try.zeroValue81 (fun b2 => ?_))
  refine tl_step rfl (oj_val (y_assign fe_c) ?_)
  refine tl_nil ?_
  refine tx_then ?_
  refine tr_seq ?_
  refine tr_block ?_
  refine tr_seq ?_
  refine tr_region ?_
  refine tl_step rfl (oj_val (y_ldbA 1 Try.isAgg81 Try.sizeOf81 (fe_t rfl) rfl rfl rfl) ?_)
  refine tl_step rfl (oj_callv Try.call63 fe_f (fel_cons (fe_t rfl) fel_nil) (fun w' hS => of_bel (Sketch.right_no A n c w' (Rd.below hr hS.below) hn (by omega) va)) ?_)
  refine tl_step rfl (oj_val (y_not (fe_t rfl)) ?_)
  refine tl_step rfl (oj_val (y_assign (fe_t rfl)) ?_)
  refine tl_nil ?_
  refine tx_then ?_
  refine tr_condt (fe_t rfl) ?_
  refine tr_seq ?_
  refine tr_region ?_
  refine tl_step rfl (oj_val (y_build (is := []) (vs := []) (cs := [.int .i64 0, .int .i64 0, .slice none 0 0]) rfl fel_nil (by kernel_rfl)) ?_)
  refine tl_step rfl (oj_storeW 0 Try.sizeOf81 (fe_t rfl) (fe_t rfl) rfl rfl rfl rfl rfl (?_))
  refine tl_step rfl (oj_val (y_assign fe_c) ?_)
  refine tl_nil ?_
  refine tx_then ?_
  refine tr_ret ?_
  refine tx_in_ret ?_
  refine tx_then_ret ?_
  refine tx_ret (res2 Try.results60 (rok_b 0 Try.isAgg81 Try.sizeOf81 rfl rfl rfl) (rok_t rfl)) (fun w' hS => ?_)
  exact ⟨rfl, hS.pick [] _ rfl (by decide)⟩

set_option maxRecDepth 100000 in
set_option maxHeartbeats 1000000 in
theorem Aadd_rng {width id nn : Int} {cf : Bool} (R : Nat) (A : Option Addr) (n c : Nat) (zs : List Int) (w : World) (hr : Rd w A (zs.map (.int .i64))) (hn : zs.length = n) (va : Sketch.vright (R : Int) width zs = true) (hb : nn < 0 ∨ 1073741824 < nn) :
    Calls Try.prog 60 #[.agg #[(.int .i64 ((R : Int))), (.int .i64 width), .slice A n c], .int .u64 id, (.int .i64 nn), .bool cf] w fun e w' => e = .returned (.tuple #[.agg #[(.int .i64 0), (.int .i64 0), .slice none 0 0], (.int .i64 2)]) ∧ St w w' [] := by
  obtain ⟨⟨d0, d1⟩, ⟨w0, w1⟩, hln⟩ := vright_facts va
  have hR8 : (R : Int) * width ≤ 8 * 64 := Int.mul_le_mul (by omega) w1 (by omega) (by omega)
  refine calls_tr Try.func60 Try.ntmps60 rfl rfl (St.refl _) ?_
  refine tr_seq ?_
  refine tr_region ?_
  refine tl_step rfl (oj_box (fe_t rfl) (fun b1 => ?_))
  refine tl_step rfl (oj_alloc Try.zeroValue81 (fun b2 => ?_))
  refine tl_step rfl (oj_val (y_assign fe_c) ?_)
  refine tl_nil ?_
  refine tx_then ?_
  refine tr_seq ?_
  refine tr_block ?_
  refine tr_seq ?_
  refine tr_region ?_
  refine tl_step rfl (oj_val (y_ldbA 1 Try.isAgg81 Try.sizeOf81 (fe_t rfl) rfl rfl rfl) ?_)
  refine tl_step rfl (oj_callv Try.call63 fe_f (fel_cons (fe_t rfl) fel_nil) (fun w' hS => of_bel (Sketch.right_yes A n c w' (Rd.below hr hS.below) hn (by omega) va)) ?_)
  refine tl_step rfl (oj_val (y_not (fe_t rfl)) ?_)
  refine tl_step rfl (oj_val (y_assign (fe_t rfl)) ?_)
  refine tl_nil ?_
  refine tx_then ?_
  refine tr_condf (fe_t rfl) ?_
  refine tr_seq ?_
  refine tr_region ?_
  refine tl_step rfl (oj_val (y_move (fe_t rfl)) ?_)
  refine tl_step rfl (oj_val (y_lss (fe_t rfl) fe_c) ?_)
  refine tl_step rfl (oj_val (y_move (fe_t rfl)) ?_)
  refine tl_splitp (d := 22) rfl (fun hq1 => ?_) (fun hq2 => ?_)
  · try (exfalso; omega)
    all_goals
      refine tl_skip rfl rfl rfl rfl ?_
      refine tl_skip rfl rfl rfl rfl ?_
      refine tl_step rfl (oj_val (y_pickt (fe_t rfl) fe_c) ?_)
      refine tl_step rfl (oj_val (y_assign (fe_t rfl)) ?_)
      refine tl_nil ?_
      refine tx_then ?_
      refine tr_condt (fe_t rfl) ?_
      refine tr_seq ?_
      refine tr_region ?_
      refine tl_step rfl (oj_val (y_build (is := []) (vs := []) (cs := [.int .i64 0, .int .i64 0, .slice none 0 0]) rfl fel_nil (by kernel_rfl)) ?_)
      refine tl_step rfl (oj_storeW 0 Try.sizeOf81 (fe_t rfl) (fe_t rfl) rfl rfl rfl rfl rfl (?_))
      refine tl_step rfl (oj_val (y_assign fe_c) ?_)
      refine tl_nil ?_
      refine tx_then ?_
      refine tr_ret ?_
      refine tx_in_ret ?_
      refine tx_then_ret ?_
      refine tx_ret (res2 Try.results60 (rok_b 0 Try.isAgg81 Try.sizeOf81 rfl rfl rfl) (rok_t rfl)) (fun w' hS => ?_)
      exact ⟨rfl, hS.pick [] _ rfl (by decide)⟩
  · try (exfalso; omega)
    all_goals
      refine tl_want rfl rfl rfl (oj_val (y_move (fe_t rfl)) ?_)
      refine tl_want rfl rfl rfl (oj_val (y_gtr (fe_t rfl) fe_c) ?_)
      refine tl_step rfl (oj_val (y_pickf (fe_t rfl) (fe_t rfl)) ?_)
      refine tl_step rfl (oj_val (y_assign (fe_t rfl)) ?_)
      refine tl_nil ?_
      refine tx_then ?_
      refine tr_condp (fe_t rfl) (fun hq3 => ?_) (fun hq4 => ?_)
      · try (exfalso; omega)
        all_goals
          refine tr_seq ?_
          refine tr_region ?_
          refine tl_step rfl (oj_val (y_build (is := []) (vs := []) (cs := [.int .i64 0, .int .i64 0, .slice none 0 0]) rfl fel_nil (by kernel_rfl)) ?_)
          refine tl_step rfl (oj_storeW 0 Try.sizeOf81 (fe_t rfl) (fe_t rfl) rfl rfl rfl rfl rfl (?_))
          refine tl_step rfl (oj_val (y_assign fe_c) ?_)
          refine tl_nil ?_
          refine tx_then ?_
          refine tr_ret ?_
          refine tx_in_ret ?_
          refine tx_then_ret ?_
          refine tx_ret (res2 Try.results60 (rok_b 0 Try.isAgg81 Try.sizeOf81 rfl rfl rfl) (rok_t rfl)) (fun w' hS => ?_)
          exact ⟨rfl, hS.pick [] _ rfl (by decide)⟩
      · exfalso; omega

set_option maxRecDepth 100000 in
set_option maxHeartbeats 1000000 in
theorem Vadd_bad {r width id nn : Int} {cf : Bool} (A : Option Addr) (n c : Nat) (zs : List Int) (w : World) (hr : Rd w A (zs.map (.int .i64))) (hn : zs.length = n) (va : Sketch.vright r width zs = false) (ln : n ≤ 140737488355328) :
    Calls Try.prog 61 #[.agg #[(.int .i64 r), (.int .i64 width), .slice A n c], .int .u64 id, (.int .i64 nn), .bool cf] w fun e w' => e = .returned (.tuple #[.agg #[(.int .i64 0), (.int .i64 0), .slice none 0 0], (.int .i64 1)]) ∧ St w w' [] := by
  refine calls_tr Try.func61 Try.ntmps61 rfl rfl (St.refl _) ?_
  refine tr_seq ?_
  refine tr_region ?_
  refine tl_step rfl (oj_box (fe_t rfl) (fun b1 => ?_))
  refine tl_step rfl (oj_alloc Try.zeroValue81 (fun b2 => ?_))
  refine tl_step rfl (oj_val (y_assign fe_c) ?_)
  refine tl_nil ?_
  refine tx_then ?_
  refine tr_seq ?_
  refine tr_seq ?_
  refine tr_region ?_
  refine tl_step rfl (oj_val (y_ldbA 1 Try.isAgg81 Try.sizeOf81 (fe_t rfl) rfl rfl rfl) ?_)
  refine tl_step rfl (oj_callv Try.call64 fe_f (fel_cons (fe_t rfl) fel_nil) (fun w' hS => of_bel (Sketch.vright_no A n c w' (Rd.below hr hS.below) hn (by omega) va)) ?_)
  refine tl_step rfl (oj_val (y_not (fe_t rfl)) ?_)
  refine tl_nil ?_
  refine tx_then ?_
  refine tr_condt (fe_t rfl) ?_
  refine tr_seq ?_
  refine tr_region ?_
  refine tl_step rfl (oj_val (y_build (is := []) (vs := []) (cs := [.int .i64 0, .int .i64 0, .slice none 0 0]) rfl fel_nil (by kernel_rfl)) ?_)
  refine tl_step rfl (oj_storeW 0 Try.sizeOf81 (fe_t rfl) (fe_t rfl) rfl rfl rfl rfl rfl (?_))
  refine tl_step rfl (oj_val (y_assign fe_c) ?_)
  refine tl_nil ?_
  refine tx_then ?_
  refine tr_ret ?_
  refine tx_then_ret ?_
  refine tx_ret (res2 Try.results61 (rok_b 0 Try.isAgg81 Try.sizeOf81 rfl rfl rfl) (rok_t rfl)) (fun w' hS => ?_)
  exact ⟨rfl, hS.pick [] _ rfl (by decide)⟩

set_option maxRecDepth 100000 in
set_option maxHeartbeats 1000000 in
theorem Vadd_rng {width id nn : Int} {cf : Bool} (R : Nat) (A : Option Addr) (n c : Nat) (zs : List Int) (w : World) (hr : Rd w A (zs.map (.int .i64))) (hn : zs.length = n) (va : Sketch.vright (R : Int) width zs = true) (hb : nn < 0 ∨ 1073741824 < nn) :
    Calls Try.prog 61 #[.agg #[(.int .i64 ((R : Int))), (.int .i64 width), .slice A n c], .int .u64 id, (.int .i64 nn), .bool cf] w fun e w' => e = .returned (.tuple #[.agg #[(.int .i64 0), (.int .i64 0), .slice none 0 0], (.int .i64 2)]) ∧ St w w' [] := by
  obtain ⟨⟨d0, d1⟩, ⟨w0, w1⟩, hln⟩ := vright_facts va
  have hR8 : (R : Int) * width ≤ 8 * 64 := Int.mul_le_mul (by omega) w1 (by omega) (by omega)
  refine calls_tr Try.func61 Try.ntmps61 rfl rfl (St.refl _) ?_
  refine tr_seq ?_
  refine tr_region ?_
  refine tl_step rfl (oj_box (fe_t rfl) (fun b1 => ?_))
  refine tl_step rfl (oj_alloc Try.zeroValue81 (fun b2 => ?_))
  refine tl_step rfl (oj_val (y_assign fe_c) ?_)
  refine tl_nil ?_
  refine tx_then ?_
  refine tr_seq ?_
  refine tr_seq ?_
  refine tr_region ?_
  refine tl_step rfl (oj_val (y_ldbA 1 Try.isAgg81 Try.sizeOf81 (fe_t rfl) rfl rfl rfl) ?_)
  refine tl_step rfl (oj_callv Try.call64 fe_f (fel_cons (fe_t rfl) fel_nil) (fun w' hS => of_bel (Sketch.vright_yes A n c w' (Rd.below hr hS.below) hn (by omega) va)) ?_)
  refine tl_step rfl (oj_val (y_not (fe_t rfl)) ?_)
  refine tl_nil ?_
  refine tx_then ?_
  refine tr_condf (fe_t rfl) ?_
  refine tr_skip ?_
  refine tx_then ?_
  refine tr_seq ?_
  refine tr_seq ?_
  refine tr_region ?_
  refine tl_step rfl (oj_val (y_move (fe_t rfl)) ?_)
  refine tl_step rfl (oj_val (y_lss (fe_t rfl) fe_c) ?_)
  refine tl_step rfl (oj_val (y_move (fe_t rfl)) ?_)
  refine tl_splitp (d := 22) rfl (fun hq1 => ?_) (fun hq2 => ?_)
  · try (exfalso; omega)
    all_goals
      refine tl_skip rfl rfl rfl rfl ?_
      refine tl_skip rfl rfl rfl rfl ?_
      refine tl_step rfl (oj_val (y_pickt (fe_t rfl) fe_c) ?_)
      refine tl_nil ?_
      refine tx_then ?_
      refine tr_condt (fe_t rfl) ?_
      refine tr_seq ?_
      refine tr_region ?_
      refine tl_step rfl (oj_val (y_build (is := []) (vs := []) (cs := [.int .i64 0, .int .i64 0, .slice none 0 0]) rfl fel_nil (by kernel_rfl)) ?_)
      refine tl_step rfl (oj_storeW 0 Try.sizeOf81 (fe_t rfl) (fe_t rfl) rfl rfl rfl rfl rfl (?_))
      refine tl_step rfl (oj_val (y_assign fe_c) ?_)
      refine tl_nil ?_
      refine tx_then ?_
      refine tr_ret ?_
      refine tx_then_ret ?_
      refine tx_ret (res2 Try.results61 (rok_b 0 Try.isAgg81 Try.sizeOf81 rfl rfl rfl) (rok_t rfl)) (fun w' hS => ?_)
      exact ⟨rfl, hS.pick [] _ rfl (by decide)⟩
  · try (exfalso; omega)
    all_goals
      refine tl_want rfl rfl rfl (oj_val (y_move (fe_t rfl)) ?_)
      refine tl_want rfl rfl rfl (oj_val (y_gtr (fe_t rfl) fe_c) ?_)
      refine tl_step rfl (oj_val (y_pickf (fe_t rfl) (fe_t rfl)) ?_)
      refine tl_nil ?_
      refine tx_then ?_
      refine tr_condp (fe_t rfl) (fun hq3 => ?_) (fun hq4 => ?_)
      · try (exfalso; omega)
        all_goals
          refine tr_seq ?_
          refine tr_region ?_
          refine tl_step rfl (oj_val (y_build (is := []) (vs := []) (cs := [.int .i64 0, .int .i64 0, .slice none 0 0]) rfl fel_nil (by kernel_rfl)) ?_)
          refine tl_step rfl (oj_storeW 0 Try.sizeOf81 (fe_t rfl) (fe_t rfl) rfl rfl rfl rfl rfl (?_))
          refine tl_step rfl (oj_val (y_assign fe_c) ?_)
          refine tl_nil ?_
          refine tx_then ?_
          refine tr_ret ?_
          refine tx_then_ret ?_
          refine tx_ret (res2 Try.results61 (rok_b 0 Try.isAgg81 Try.sizeOf81 rfl rfl rfl) (rok_t rfl)) (fun w' hS => ?_)
          exact ⟨rfl, hS.pick [] _ rfl (by decide)⟩
      · exfalso; omega

set_option maxRecDepth 100000 in
set_option maxHeartbeats 4000000 in
theorem Aadd_full {width id nn : Int} {cf : Bool} (R : Nat) (A : Option Addr) (n c : Nat) (zs : List Int) (w : World) (hr : Rd w A (zs.map (.int .i64))) (hn : zs.length = n) (va : Sketch.vright (R : Int) width zs = true) (i0 : 0 ≤ id) (i1 : id < 18446744073709551616) (hn0 : 0 ≤ nn) (hn1 : nn ≤ 1073741824) (hf : bigs zs (nw cf (least zs width id R) nn) width id R = true) :
    Calls Try.prog 60 #[.agg #[(.int .i64 ((R : Int))), (.int .i64 width), .slice A n c], .int .u64 id, (.int .i64 nn), .bool cf] w fun e w' => e = .returned (.tuple #[.agg #[(.int .i64 0), (.int .i64 0), .slice none 0 0], (.int .i64 4)]) ∧ St w w' [] := by
  obtain ⟨⟨d0, d1⟩, ⟨w0, w1⟩, hln⟩ := vright_facts va
  have hR8 : (R : Int) * width ≤ 8 * 64 := Int.mul_le_mul (by omega) w1 (by omega) (by omega)
  have hlb := least_bd (id := id) va R (by omega)
  have hpos := Sketch.dims_prod (Sketch.dims_iff.2 ⟨⟨d0, d1⟩, w0, w1⟩)
  refine calls_tr Try.func60 Try.ntmps60 rfl rfl (St.refl _) ?_
  refine tr_seq ?_
  refine tr_region ?_
  refine tl_step rfl (oj_box (fe_t rfl) (fun sb => ?_))
  refine tl_step rfl (oj_alloc Try.zeroValue81 (fun rb => ?_))
  refine tl_step rfl (oj_val (y_assign fe_c) ?_)
  refine tl_nil ?_
  refine tx_then ?_
  refine tr_seq ?_
  refine tr_block ?_
  refine tr_seq ?_
  refine tr_region ?_
  refine tl_step rfl (oj_val (y_ldbA 1 Try.isAgg81 Try.sizeOf81 (fe_t rfl) rfl rfl rfl) ?_)
  refine tl_step rfl (oj_callv Try.call63 fe_f (fel_cons (fe_t rfl) fel_nil) (fun w' hS => of_bel (Sketch.right_yes A n c w' (Rd.below hr hS.below) hn (by omega) va)) ?_)
  refine tl_step rfl (oj_val (y_not (fe_t rfl)) ?_)
  refine tl_step rfl (oj_val (y_assign (fe_t rfl)) ?_)
  refine tl_nil ?_
  refine tx_then ?_
  refine tr_condf (fe_t rfl) ?_
  refine tr_seq ?_
  refine tr_region ?_
  refine tl_step rfl (oj_val (y_move (fe_t rfl)) ?_)
  refine tl_step rfl (oj_val (y_lss (fe_t rfl) fe_c) ?_)
  refine tl_step rfl (oj_val (y_move (fe_t rfl)) ?_)
  refine tl_splitp (d := 22) rfl (fun hq1 => ?_) (fun hq2 => ?_)
  · try (exfalso; omega)
    all_goals
      refine tl_skip rfl rfl rfl rfl ?_
      refine tl_skip rfl rfl rfl rfl ?_
      refine tl_step rfl (oj_val (y_pickt (fe_t rfl) fe_c) ?_)
      refine tl_step rfl (oj_val (y_assign (fe_t rfl)) ?_)
      refine tl_nil ?_
      refine tx_then ?_
      exfalso; omega
  · try (exfalso; omega)
    all_goals
      refine tl_want rfl rfl rfl (oj_val (y_move (fe_t rfl)) ?_)
      refine tl_want rfl rfl rfl (oj_val (y_gtr (fe_t rfl) fe_c) ?_)
      refine tl_step rfl (oj_val (y_pickf (fe_t rfl) (fe_t rfl)) ?_)
      refine tl_step rfl (oj_val (y_assign (fe_t rfl)) ?_)
      refine tl_nil ?_
      refine tx_then ?_
      refine tr_condp (fe_t rfl) (fun hq3 => ?_) (fun hq4 => ?_)
      · exfalso; omega
      · try (exfalso; omega)
        all_goals
          refine tr_skip ?_
          refine tx_in ?_
          refine tx_then ?_
          refine tr_seq ?_
          refine tr_region ?_
          refine tl_step rfl (oj_val (y_ldbA 1 Try.isAgg81 Try.sizeOf81 (fe_t rfl) rfl rfl rfl) ?_)
          refine tl_step rfl (oj_val (y_move (fe_t rfl)) ?_)
          refine tl_step rfl (oj_callv Try.call59 fe_f (fel_cons (fe_t rfl) (fel_cons (fe_t rfl) fel_nil)) (fun w' hS => count_ok R A n c zs w' (Rd.below hr hS.below) hn va i0 i1) ?_)
          refine tl_step rfl (oj_val (y_move (fe_t rfl)) ?_)
          refine tl_step rfl (oj_val (y_extract (fe_t rfl) rfl) ?_)
          refine tl_step rfl (oj_val (y_extract (fe_t rfl) rfl) ?_)
          refine tl_step rfl (oj_val (y_assign (fe_t rfl)) ?_)
          refine tl_step rfl (oj_val (y_assign (fe_t rfl)) ?_)
          refine tl_nil ?_
          refine tx_then ?_
          refine tr_seq ?_
          refine tr_region ?_
          refine tl_step rfl (oj_val (y_fieldAddr (td := 79) Try.underlying81 rfl rfl Try.sizeOf79 (o' := 2) rfl (fe_t rfl)) ?_)
          refine tl_step rfl (oj_val (y_ldb 1 Try.isAgg79 (fe_t rfl) rfl rfl) ?_)
          refine tl_step rfl (oj_call Try.call134 fe_f (fel_cons (fe_t rfl) fel_nil) (fun w' hS => Sketch.clone_any A n c zs w' (Rd.below hr hS.below) hn (by omega)) (fun q hq0 => ?_))
          refine tl_step rfl (oj_val (y_fieldAddr (td := 79) Try.underlying81 rfl rfl Try.sizeOf79 (o' := 2) rfl (fe_t rfl)) ?_)
          refine tl_step rfl (oj_store1 2 Try.sizeOf79 (fe_t rfl) (fe_t rfl) rfl rfl rfl rfl (?_))
          refine tl_nil ?_
          refine tx_then ?_
          refine tr_seq ?_
          refine tr_seq ?_
          refine tr_region ?_
          refine tl_step rfl (oj_val (y_ldbA 2 Try.isAgg81 Try.sizeOf81 (fe_t rfl) rfl rfl rfl) ?_)
          refine tl_step rfl (oj_val (y_move (fe_t rfl)) ?_)
          refine tl_step rfl (oj_call Try.call133 fe_f (fel_cons (fe_t rfl) (fel_cons (fe_t rfl) fel_nil)) (fun w' hS => cells_ok R _ _ _ w' (by omega) w0 w1 i0 i1) (fun v hq => ?_))
          refine tl_step rfl (oj_val (y_len Try.underlying79 (fe_t rfl)) ?_)
          refine tl_step rfl (oj_val (y_move fe_c) ?_)
          refine tl_nil ?_
          refine tx_then ?_
          refine tr_block ?_
          refine tr_loop2 [9, 13, 41, 42, 43, 44, 45, 46, 47, 48, 49, 50, 51, 52, 53, 54, 55, 56, 57, 58, 59, 60, 61, 62, 63, 64, 65, 66, 67, 68, 69, 70, 71, 72, 73, 74] (fun (k : Nat) (vx : List Value) => [(41, .int .i64 (k : Int))]) 0 (fun (k : Nat) (vx : List Value) => [(1, vec 3 1 (.slice q.1 zs.length q.2) zs.length vx)]) (fun (k : Nat) (vx : List Value) => k ≤ R ∧ vx = cI (upd zs (nw cf (least zs width id R) nn) width id k) ∧ bigs zs (nw cf (least zs width id R) nn) width id k = false) (fun (k : Nat) (vx : List Value) => R - k) (0) (_) (cov_cons (by first | rfl | exact v_int (by omega) | exact v_bool (by simp [*])) (cov_nil)) (fun w h => h) ?_ ?_
          · try dsimp only
            exact ⟨by omega, rfl, rfl⟩
          intro k vx hp
          obtain ⟨hk, hvx, hbg⟩ := hp
          have hvl : vx.length = n := by rw [hvx, cI, List.length_map, upd_len]; omega
          refine tr_seq ?_
          refine tr_region ?_
          refine tl_step rfl (oj_val (y_lss (fe_t rfl) (fe_t rfl)) ?_)
          refine tl_nil ?_
          refine tx_then ?_
          refine tr_seq ?_
          refine tr_condp (fe_t rfl) (fun hq5 => ?_) (fun hq6 => ?_)
          · try (exfalso; omega)
            all_goals
              refine tr_skip ?_
              refine tx_then ?_
              refine tr_seq ?_
              refine tr_block ?_
              refine tr_seq ?_
              have hsb := spots_bd (id := id) (r := R) (k := k) w0 (by omega)
              have hzb := good_getD va ((k : Int) * width + spot k width id).toNat (by omega)
              refine tr_region ?_
              refine tl_step rfl (oj_val (y_index Try.underlying79 Try.sizeOf3 (fe_t rfl) (fe_t rfl) (rdl_vec 0 rfl) (by rw [hq.2, cI, List.length_map, spots_len]; omega) (by decide) (by omega) (Nat.mul_one _)) ?_)
              refine tl_step rfl (oj_val (y_ld (v := .int .i64 ((k : Int) * width + spot k width id)) Try.isAgg3 (fe_t rfl) (rdl_vec 0 rfl) (by rw [hq.2]; exact cI_spots (by omega))) ?_)
              refine tl_step rfl (oj_val (y_assign (fe_t rfl)) ?_)
              refine tl_nil ?_
              refine tx_then ?_
              refine tr_seq ?_
              refine tr_seq ?_
              refine tr_region ?_
              refine tl_step rfl (oj_val (y_move (fe_t rfl)) ?_)
              refine tl_nil ?_
              refine tx_then ?_
              refine tr_cond (fe_t rfl) (fun hq7 => ?_) (fun hq8 => ?_)
              · try (exfalso; omega)
                all_goals
                  obtain rfl : cf = true := hq7
                  refine tb_draw 13 (sel _ [0, 2, 3]) (fun w h => h.sel _ rfl (by decide)) rfl ?_
                  refine tb_float (i := 0) rfl (by kernel_rfl) rfl (wants_none rfl) (yq_of (y_fieldAddr (td := 79) Try.underlying81 rfl rfl Try.sizeOf79 (o' := 2) rfl (fe_t rfl))) ?_
                  refine tb_float (i := 1) rfl (by kernel_rfl) rfl (wants_none rfl) (yq_of (y_ldb 2 Try.isAgg79 (fe_t rfl) rfl rfl)) ?_
                  refine tb_float (i := 2) rfl (by kernel_rfl) rfl (wants_none rfl) (yq_of (y_move (fe_t rfl))) ?_
                  refine tb_float (i := 3) rfl (by kernel_rfl) rfl (wants_none rfl) (yq_of (y_fieldAddr (td := 79) Try.underlying81 rfl rfl Try.sizeOf79 (o' := 2) rfl (fe_t rfl))) ?_
                  refine tb_float (i := 4) rfl (by kernel_rfl) rfl (wants_none rfl) (yq_of (y_ldb 2 Try.isAgg79 (fe_t rfl) rfl rfl)) ?_
                  refine tb_float (i := 5) rfl (by kernel_rfl) rfl (wants_none rfl) (yq_of (y_move (fe_t rfl))) ?_
                  refine tb_float1 (i := 6) rfl (by kernel_rfl) (by kernel_rfl) rfl (wants_none rfl) (yq_of (y_indexI Try.underlying79 Try.sizeOf3 (fe_t rfl) (fe_t rfl) (rdl_vec 1 rfl) (by first | omega | (rw [List.length_set]; omega)) (by decide) (by omega) (by omega) (Nat.mul_one _))) ?_
                  refine tb_float1 (i := 7) rfl (by kernel_rfl) (by kernel_rfl) rfl (wants_none rfl) (yq_of (y_ld (v := (.int .i64 (zs.getD ((k : Int) * width + spot k width id).toNat 0))) Try.isAgg3 (fe_t rfl) (rdl_vec 1 rfl) (by rw [hvx]; exact cI_upd w0 (by omega)))) ?_
                  refine tb_float (i := 8) rfl (by kernel_rfl) rfl (wants_none rfl) (yq_of (y_move (fe_t rfl))) ?_
                  refine tb_float (i := 9) rfl (by kernel_rfl) rfl (wants_none rfl) (yq_of (y_move (fe_t rfl))) ?_
                  refine tb_float (i := 10) rfl (by kernel_rfl) rfl (wants_none rfl) (yq_of (y_add (fe_t rfl) (fe_t rfl) (by omega))) ?_
                  refine tb_float (i := 11) rfl (by kernel_rfl) rfl (wants_none rfl) (yq_of (y_max (fe_t rfl) (fe_t rfl))) ?_
                  refine tb_float1 (i := 12) rfl (by kernel_rfl) (by kernel_rfl) rfl (wants_none rfl) (yq_of (y_indexI Try.underlying79 Try.sizeOf3 (fe_t rfl) (fe_t rfl) (rdl_vec 1 rfl) (by first | omega | (rw [List.length_set]; omega)) (by decide) (by omega) (by omega) (Nat.mul_one _))) ?_
                  refine tb_one2 (i := 13) rfl (by kernel_rfl) (by kernel_rfl) (wants_none rfl) (oj_storeE1 (i := 1) Try.sizeOf3 (fe_t rfl) (fe_t rfl) rfl rfl rfl (by omega) (⟨fun w h => h.pick [0, 2, 3] _ rfl (by decide), ?_⟩))
                  refine tb_done (by kernel_rfl) ?_
                  refine tx_then ?_
                  refine tr_seq ?_
                  refine tr_region ?_
                  refine tl_step rfl (oj_val (y_fieldAddr (td := 79) Try.underlying81 rfl rfl Try.sizeOf79 (o' := 2) rfl (fe_t rfl)) ?_)
                  refine tl_step rfl (oj_val (y_ldb 3 Try.isAgg79 (fe_t rfl) rfl rfl) ?_)
                  refine tl_step rfl (oj_val (y_move (fe_t rfl)) ?_)
                  refine tl_step rfl (oj_val (y_indexI Try.underlying79 Try.sizeOf3 (fe_t rfl) (fe_t rfl) (rdl_vec 1 rfl) (by first | omega | (rw [List.length_set]; omega)) (by decide) (by omega) (by omega) (Nat.mul_one _)) ?_)
                  refine tl_step rfl (oj_val (y_ld Try.isAgg3 (fe_t rfl) (rdl_vec 1 rfl) (set_get (by omega))) ?_)
                  refine tl_step rfl (oj_val (y_gtr (fe_t rfl) fe_c) ?_)
                  refine tl_nil ?_
                  refine tx_then ?_
                  refine tr_condp (fe_t rfl) (fun hq9 => ?_) (fun hq10 => ?_)
                  · try (exfalso; omega)
                    all_goals
                      refine tr_seq ?_
                      refine tr_region ?_
                      refine tl_step rfl (oj_val (y_build (is := []) (vs := []) (cs := [.int .i64 0, .int .i64 0, .slice none 0 0]) rfl fel_nil (by kernel_rfl)) ?_)
                      refine tl_step rfl (oj_storeW 2 Try.sizeOf81 (fe_t rfl) (fe_t rfl) rfl rfl rfl rfl rfl (?_))
                      refine tl_step rfl (oj_val (y_assign fe_c) ?_)
                      refine tl_nil ?_
                      refine tx_then ?_
                      refine tr_ret ?_
                      refine tx_in_ret ?_
                      refine tx_then_ret ?_
                      refine tx_then_ret ?_
                      refine tx_in_ret ?_
                      refine tx_then_ret ?_
                      refine tx_ret (res2 Try.results60 (rok_b 2 Try.isAgg81 Try.sizeOf81 rfl rfl rfl) (rok_t rfl)) (fun w' hS => ?_)
                      have hbt : bigs zs (nw true (least zs width id R) nn) width id (k + 1) = true := by rw [bigs_succ, Bool.or_eq_true, decide_eq_true_eq]; unfold nw; simp only [cond_true, cond_false]; exact .inr (by omega)
                      have hbr := bigs_mono (r := R) (by omega) hbt
                      exact ⟨rfl, hS.pick [] _ rfl (by decide)⟩
                  · try (exfalso; omega)
                    all_goals
                      refine tr_skip ?_
                      refine tx_in ?_
                      refine tx_then ?_
                      refine tr_region ?_
                      refine tl_step rfl (oj_val (y_inc (fe_t rfl) fe_c (by omega)) ?_)
                      refine tl_step rfl (oj_val (y_move (fe_t rfl)) ?_)
                      refine tl_nil ?_
                      apply tx_back2 (k + 1) (_)
                      · exact (cov_cons (by first | rfl | exact v_int (by omega) | exact v_bool (by simp [*])) (cov_nil))
                      · repeat (first | exact over_nil | refine over_put rfl ?_ | refine over_drop rfl ?_)
                      · exact fun w h => h.pick [0, 1, 2, 3] _ rfl (by decide)
                      · refine ⟨⟨by omega, by rw [hvx, upd, cI, cI, List.map_set]; first | rfl | (congr 2; unfold nw; simp only [cond_true, cond_false]; omega), ?_⟩, by omega⟩
                        rw [bigs_succ, hbg, Bool.false_or, decide_eq_false_iff_not]
                        unfold nw
                        simp only [cond_true, cond_false]
                        omega
              · try (exfalso; omega)
                all_goals
                  obtain rfl : cf = false := hq8
                  refine tr_region ?_
                  refine tl_step rfl (oj_val (y_fieldAddr (td := 79) Try.underlying81 rfl rfl Try.sizeOf79 (o' := 2) rfl (fe_t rfl)) ?_)
                  refine tl_step rfl (oj_val (y_ldb 3 Try.isAgg79 (fe_t rfl) rfl rfl) ?_)
                  refine tl_step rfl (oj_val (y_move (fe_t rfl)) ?_)
                  refine tl_step rfl (oj_val (y_indexI Try.underlying79 Try.sizeOf3 (fe_t rfl) (fe_t rfl) (rdl_vec 1 rfl) (by first | omega | (rw [List.length_set]; omega)) (by decide) (by omega) (by omega) (Nat.mul_one _)) ?_)
                  refine tl_step rfl (oj_val (y_ld (v := (.int .i64 (zs.getD ((k : Int) * width + spot k width id).toNat 0))) Try.isAgg3 (fe_t rfl) (rdl_vec 1 rfl) (by rw [hvx]; exact cI_upd w0 (by omega))) ?_)
                  refine tl_step rfl (oj_val (y_move (fe_t rfl)) ?_)
                  refine tl_step rfl (oj_val (y_add (fe_t rfl) (fe_t rfl) (by omega)) ?_)
                  refine tl_step rfl (oj_val (y_indexI Try.underlying79 Try.sizeOf3 (fe_t rfl) (fe_t rfl) (rdl_vec 1 rfl) (by first | omega | (rw [List.length_set]; omega)) (by decide) (by omega) (by omega) (Nat.mul_one _)) ?_)
                  refine tl_step rfl (oj_storeE1 (i := 1) Try.sizeOf3 (fe_t rfl) (fe_t rfl) rfl rfl rfl (by omega) (?_))
                  refine tl_nil ?_
                  refine tx_then ?_
                  refine tr_seq ?_
                  refine tr_region ?_
                  refine tl_step rfl (oj_val (y_fieldAddr (td := 79) Try.underlying81 rfl rfl Try.sizeOf79 (o' := 2) rfl (fe_t rfl)) ?_)
                  refine tl_step rfl (oj_val (y_ldb 3 Try.isAgg79 (fe_t rfl) rfl rfl) ?_)
                  refine tl_step rfl (oj_val (y_move (fe_t rfl)) ?_)
                  refine tl_step rfl (oj_val (y_indexI Try.underlying79 Try.sizeOf3 (fe_t rfl) (fe_t rfl) (rdl_vec 1 rfl) (by first | omega | (rw [List.length_set]; omega)) (by decide) (by omega) (by omega) (Nat.mul_one _)) ?_)
                  refine tl_step rfl (oj_val (y_ld Try.isAgg3 (fe_t rfl) (rdl_vec 1 rfl) (set_get (by omega))) ?_)
                  refine tl_step rfl (oj_val (y_gtr (fe_t rfl) fe_c) ?_)
                  refine tl_nil ?_
                  refine tx_then ?_
                  refine tr_condp (fe_t rfl) (fun hq11 => ?_) (fun hq12 => ?_)
                  · try (exfalso; omega)
                    all_goals
                      refine tr_seq ?_
                      refine tr_region ?_
                      refine tl_step rfl (oj_val (y_build (is := []) (vs := []) (cs := [.int .i64 0, .int .i64 0, .slice none 0 0]) rfl fel_nil (by kernel_rfl)) ?_)
                      refine tl_step rfl (oj_storeW 2 Try.sizeOf81 (fe_t rfl) (fe_t rfl) rfl rfl rfl rfl rfl (?_))
                      refine tl_step rfl (oj_val (y_assign fe_c) ?_)
                      refine tl_nil ?_
                      refine tx_then ?_
                      refine tr_ret ?_
                      refine tx_in_ret ?_
                      refine tx_then_ret ?_
                      refine tx_then_ret ?_
                      refine tx_in_ret ?_
                      refine tx_then_ret ?_
                      refine tx_ret (res2 Try.results60 (rok_b 2 Try.isAgg81 Try.sizeOf81 rfl rfl rfl) (rok_t rfl)) (fun w' hS => ?_)
                      have hbt : bigs zs (nw false (least zs width id R) nn) width id (k + 1) = true := by rw [bigs_succ, Bool.or_eq_true, decide_eq_true_eq]; unfold nw; simp only [cond_true, cond_false]; exact .inr (by omega)
                      have hbr := bigs_mono (r := R) (by omega) hbt
                      exact ⟨rfl, hS.pick [] _ rfl (by decide)⟩
                  · try (exfalso; omega)
                    all_goals
                      refine tr_skip ?_
                      refine tx_in ?_
                      refine tx_then ?_
                      refine tr_region ?_
                      refine tl_step rfl (oj_val (y_inc (fe_t rfl) fe_c (by omega)) ?_)
                      refine tl_step rfl (oj_val (y_move (fe_t rfl)) ?_)
                      refine tl_nil ?_
                      apply tx_back2 (k + 1) (_)
                      · exact (cov_cons (by first | rfl | exact v_int (by omega) | exact v_bool (by simp [*])) (cov_nil))
                      · repeat (first | exact over_nil | refine over_put rfl ?_ | refine over_drop rfl ?_)
                      · exact fun w h => h.pick [0, 1, 2, 3] _ rfl (by decide)
                      · refine ⟨⟨by omega, by rw [hvx, upd, cI, cI, List.map_set]; first | rfl | (congr 2; unfold nw; simp only [cond_true, cond_false]; omega), ?_⟩, by omega⟩
                        rw [bigs_succ, hbg, Bool.false_or, decide_eq_false_iff_not]
                        unfold nw
                        simp only [cond_true, cond_false]
                        omega
          · try (exfalso; omega)
            all_goals
              refine tr_exit ?_
              refine tx_then_exit ?_
              refine tx_then_exit ?_
              refine tx_in_exit ?_
              refine tx_then ?_
              refine tr_seq ?_
              refine tr_region ?_
              refine tl_step rfl (oj_val (y_ldbA 3 Try.isAgg81 Try.sizeOf81 (fe_t rfl) rfl rfl rfl) ?_)
              refine tl_step rfl (oj_storeW 2 Try.sizeOf81 (fe_t rfl) (fe_t rfl) rfl rfl rfl rfl rfl (?_))
              refine tl_step rfl (oj_val (y_assign fe_c) ?_)
              refine tl_nil ?_
              refine tx_then ?_
              refine tr_ret ?_
              refine tx_ret (res2 Try.results60 (rok_b 2 Try.isAgg81 Try.sizeOf81 rfl rfl rfl) (rok_t rfl)) (fun w' hS => ?_)
              obtain rfl : k = R := by omega
              rw [hf] at hbg
              cases hbg

set_option maxRecDepth 100000 in
set_option maxHeartbeats 4000000 in
theorem Aadd_ok {width id nn : Int} {cf : Bool} (R : Nat) (A : Option Addr) (n c : Nat) (zs : List Int) (w : World) (hr : Rd w A (zs.map (.int .i64))) (hn : zs.length = n) (va : Sketch.vright (R : Int) width zs = true) (i0 : 0 ≤ id) (i1 : id < 18446744073709551616) (hn0 : 0 ≤ nn) (hn1 : nn ≤ 1073741824) (hf : bigs zs (nw cf (least zs width id R) nn) width id R = false) :
    Calls Try.prog 60 #[.agg #[(.int .i64 ((R : Int))), (.int .i64 width), .slice A n c], .int .u64 id, (.int .i64 nn), .bool cf] w fun e w' => ∃ v : Vs, (v.n = n ∧ v.xs = cI (upd zs (nw cf (least zs width id R) nn) width id R)) ∧ e = .returned (.tuple #[.agg #[(.int .i64 ((R : Int))), (.int .i64 width), .slice v.A v.n v.c], (.int .i64 0)]) ∧ St w w' [vec 3 1 (.slice v.A v.n v.c) v.n v.xs] := by
  obtain ⟨⟨d0, d1⟩, ⟨w0, w1⟩, hln⟩ := vright_facts va
  have hR8 : (R : Int) * width ≤ 8 * 64 := Int.mul_le_mul (by omega) w1 (by omega) (by omega)
  have hlb := least_bd (id := id) va R (by omega)
  have hpos := Sketch.dims_prod (Sketch.dims_iff.2 ⟨⟨d0, d1⟩, w0, w1⟩)
  refine calls_tr Try.func60 Try.ntmps60 rfl rfl (St.refl _) ?_
  refine tr_seq ?_
  refine tr_region ?_
  refine tl_step rfl (oj_box (fe_t rfl) (fun sb => ?_))
  refine tl_step rfl (oj_alloc Try.zeroValue81 (fun rb => ?_))
  refine tl_step rfl (oj_val (y_assign fe_c) ?_)
  refine tl_nil ?_
  refine tx_then ?_
  refine tr_seq ?_
  refine tr_block ?_
  refine tr_seq ?_
  refine tr_region ?_
  refine tl_step rfl (oj_val (y_ldbA 1 Try.isAgg81 Try.sizeOf81 (fe_t rfl) rfl rfl rfl) ?_)
  refine tl_step rfl (oj_callv Try.call63 fe_f (fel_cons (fe_t rfl) fel_nil) (fun w' hS => of_bel (Sketch.right_yes A n c w' (Rd.below hr hS.below) hn (by omega) va)) ?_)
  refine tl_step rfl (oj_val (y_not (fe_t rfl)) ?_)
  refine tl_step rfl (oj_val (y_assign (fe_t rfl)) ?_)
  refine tl_nil ?_
  refine tx_then ?_
  refine tr_condf (fe_t rfl) ?_
  refine tr_seq ?_
  refine tr_region ?_
  refine tl_step rfl (oj_val (y_move (fe_t rfl)) ?_)
  refine tl_step rfl (oj_val (y_lss (fe_t rfl) fe_c) ?_)
  refine tl_step rfl (oj_val (y_move (fe_t rfl)) ?_)
  refine tl_splitp (d := 22) rfl (fun hq1 => ?_) (fun hq2 => ?_)
  · try (exfalso; omega)
    all_goals
      refine tl_skip rfl rfl rfl rfl ?_
      refine tl_skip rfl rfl rfl rfl ?_
      refine tl_step rfl (oj_val (y_pickt (fe_t rfl) fe_c) ?_)
      refine tl_step rfl (oj_val (y_assign (fe_t rfl)) ?_)
      refine tl_nil ?_
      refine tx_then ?_
      exfalso; omega
  · try (exfalso; omega)
    all_goals
      refine tl_want rfl rfl rfl (oj_val (y_move (fe_t rfl)) ?_)
      refine tl_want rfl rfl rfl (oj_val (y_gtr (fe_t rfl) fe_c) ?_)
      refine tl_step rfl (oj_val (y_pickf (fe_t rfl) (fe_t rfl)) ?_)
      refine tl_step rfl (oj_val (y_assign (fe_t rfl)) ?_)
      refine tl_nil ?_
      refine tx_then ?_
      refine tr_condp (fe_t rfl) (fun hq3 => ?_) (fun hq4 => ?_)
      · exfalso; omega
      · try (exfalso; omega)
        all_goals
          refine tr_skip ?_
          refine tx_in ?_
          refine tx_then ?_
          refine tr_seq ?_
          refine tr_region ?_
          refine tl_step rfl (oj_val (y_ldbA 1 Try.isAgg81 Try.sizeOf81 (fe_t rfl) rfl rfl rfl) ?_)
          refine tl_step rfl (oj_val (y_move (fe_t rfl)) ?_)
          refine tl_step rfl (oj_callv Try.call59 fe_f (fel_cons (fe_t rfl) (fel_cons (fe_t rfl) fel_nil)) (fun w' hS => count_ok R A n c zs w' (Rd.below hr hS.below) hn va i0 i1) ?_)
          refine tl_step rfl (oj_val (y_move (fe_t rfl)) ?_)
          refine tl_step rfl (oj_val (y_extract (fe_t rfl) rfl) ?_)
          refine tl_step rfl (oj_val (y_extract (fe_t rfl) rfl) ?_)
          refine tl_step rfl (oj_val (y_assign (fe_t rfl)) ?_)
          refine tl_step rfl (oj_val (y_assign (fe_t rfl)) ?_)
          refine tl_nil ?_
          refine tx_then ?_
          refine tr_seq ?_
          refine tr_region ?_
          refine tl_step rfl (oj_val (y_fieldAddr (td := 79) Try.underlying81 rfl rfl Try.sizeOf79 (o' := 2) rfl (fe_t rfl)) ?_)
          refine tl_step rfl (oj_val (y_ldb 1 Try.isAgg79 (fe_t rfl) rfl rfl) ?_)
          refine tl_step rfl (oj_call Try.call134 fe_f (fel_cons (fe_t rfl) fel_nil) (fun w' hS => Sketch.clone_any A n c zs w' (Rd.below hr hS.below) hn (by omega)) (fun q hq0 => ?_))
          refine tl_step rfl (oj_val (y_fieldAddr (td := 79) Try.underlying81 rfl rfl Try.sizeOf79 (o' := 2) rfl (fe_t rfl)) ?_)
          refine tl_step rfl (oj_store1 2 Try.sizeOf79 (fe_t rfl) (fe_t rfl) rfl rfl rfl rfl (?_))
          refine tl_nil ?_
          refine tx_then ?_
          refine tr_seq ?_
          refine tr_seq ?_
          refine tr_region ?_
          refine tl_step rfl (oj_val (y_ldbA 2 Try.isAgg81 Try.sizeOf81 (fe_t rfl) rfl rfl rfl) ?_)
          refine tl_step rfl (oj_val (y_move (fe_t rfl)) ?_)
          refine tl_step rfl (oj_call Try.call133 fe_f (fel_cons (fe_t rfl) (fel_cons (fe_t rfl) fel_nil)) (fun w' hS => cells_ok R _ _ _ w' (by omega) w0 w1 i0 i1) (fun v hq => ?_))
          refine tl_step rfl (oj_val (y_len Try.underlying79 (fe_t rfl)) ?_)
          refine tl_step rfl (oj_val (y_move fe_c) ?_)
          refine tl_nil ?_
          refine tx_then ?_
          refine tr_block ?_
          refine tr_loop2 [9, 13, 41, 42, 43, 44, 45, 46, 47, 48, 49, 50, 51, 52, 53, 54, 55, 56, 57, 58, 59, 60, 61, 62, 63, 64, 65, 66, 67, 68, 69, 70, 71, 72, 73, 74] (fun (k : Nat) (vx : List Value) => [(41, .int .i64 (k : Int))]) 0 (fun (k : Nat) (vx : List Value) => [(1, vec 3 1 (.slice q.1 zs.length q.2) zs.length vx)]) (fun (k : Nat) (vx : List Value) => k ≤ R ∧ vx = cI (upd zs (nw cf (least zs width id R) nn) width id k) ∧ bigs zs (nw cf (least zs width id R) nn) width id k = false) (fun (k : Nat) (vx : List Value) => R - k) (0) (_) (cov_cons (by first | rfl | exact v_int (by omega) | exact v_bool (by simp [*])) (cov_nil)) (fun w h => h) ?_ ?_
          · try dsimp only
            exact ⟨by omega, rfl, rfl⟩
          intro k vx hp
          obtain ⟨hk, hvx, hbg⟩ := hp
          have hvl : vx.length = n := by rw [hvx, cI, List.length_map, upd_len]; omega
          refine tr_seq ?_
          refine tr_region ?_
          refine tl_step rfl (oj_val (y_lss (fe_t rfl) (fe_t rfl)) ?_)
          refine tl_nil ?_
          refine tx_then ?_
          refine tr_seq ?_
          refine tr_condp (fe_t rfl) (fun hq5 => ?_) (fun hq6 => ?_)
          · try (exfalso; omega)
            all_goals
              refine tr_skip ?_
              refine tx_then ?_
              refine tr_seq ?_
              refine tr_block ?_
              refine tr_seq ?_
              have hsb := spots_bd (id := id) (r := R) (k := k) w0 (by omega)
              have hzb := good_getD va ((k : Int) * width + spot k width id).toNat (by omega)
              refine tr_region ?_
              refine tl_step rfl (oj_val (y_index Try.underlying79 Try.sizeOf3 (fe_t rfl) (fe_t rfl) (rdl_vec 0 rfl) (by rw [hq.2, cI, List.length_map, spots_len]; omega) (by decide) (by omega) (Nat.mul_one _)) ?_)
              refine tl_step rfl (oj_val (y_ld (v := .int .i64 ((k : Int) * width + spot k width id)) Try.isAgg3 (fe_t rfl) (rdl_vec 0 rfl) (by rw [hq.2]; exact cI_spots (by omega))) ?_)
              refine tl_step rfl (oj_val (y_assign (fe_t rfl)) ?_)
              refine tl_nil ?_
              refine tx_then ?_
              refine tr_seq ?_
              refine tr_seq ?_
              refine tr_region ?_
              refine tl_step rfl (oj_val (y_move (fe_t rfl)) ?_)
              refine tl_nil ?_
              refine tx_then ?_
              refine tr_cond (fe_t rfl) (fun hq7 => ?_) (fun hq8 => ?_)
              · try (exfalso; omega)
                all_goals
                  obtain rfl : cf = true := hq7
                  refine tb_draw 13 (sel _ [0, 2, 3]) (fun w h => h.sel _ rfl (by decide)) rfl ?_
                  refine tb_float (i := 0) rfl (by kernel_rfl) rfl (wants_none rfl) (yq_of (y_fieldAddr (td := 79) Try.underlying81 rfl rfl Try.sizeOf79 (o' := 2) rfl (fe_t rfl))) ?_
                  refine tb_float (i := 1) rfl (by kernel_rfl) rfl (wants_none rfl) (yq_of (y_ldb 2 Try.isAgg79 (fe_t rfl) rfl rfl)) ?_
                  refine tb_float (i := 2) rfl (by kernel_rfl) rfl (wants_none rfl) (yq_of (y_move (fe_t rfl))) ?_
                  refine tb_float (i := 3) rfl (by kernel_rfl) rfl (wants_none rfl) (yq_of (y_fieldAddr (td := 79) Try.underlying81 rfl rfl Try.sizeOf79 (o' := 2) rfl (fe_t rfl))) ?_
                  refine tb_float (i := 4) rfl (by kernel_rfl) rfl (wants_none rfl) (yq_of (y_ldb 2 Try.isAgg79 (fe_t rfl) rfl rfl)) ?_
                  refine tb_float (i := 5) rfl (by kernel_rfl) rfl (wants_none rfl) (yq_of (y_move (fe_t rfl))) ?_
                  refine tb_float1 (i := 6) rfl (by kernel_rfl) (by kernel_rfl) rfl (wants_none rfl) (yq_of (y_indexI Try.underlying79 Try.sizeOf3 (fe_t rfl) (fe_t rfl) (rdl_vec 1 rfl) (by first | omega | (rw [List.length_set]; omega)) (by decide) (by omega) (by omega) (Nat.mul_one _))) ?_
                  refine tb_float1 (i := 7) rfl (by kernel_rfl) (by kernel_rfl) rfl (wants_none rfl) (yq_of (y_ld (v := (.int .i64 (zs.getD ((k : Int) * width + spot k width id).toNat 0))) Try.isAgg3 (fe_t rfl) (rdl_vec 1 rfl) (by rw [hvx]; exact cI_upd w0 (by omega)))) ?_
                  refine tb_float (i := 8) rfl (by kernel_rfl) rfl (wants_none rfl) (yq_of (y_move (fe_t rfl))) ?_
                  refine tb_float (i := 9) rfl (by kernel_rfl) rfl (wants_none rfl) (yq_of (y_move (fe_t rfl))) ?_
                  refine tb_float (i := 10) rfl (by kernel_rfl) rfl (wants_none rfl) (yq_of (y_add (fe_t rfl) (fe_t rfl) (by omega))) ?_
                  refine tb_float (i := 11) rfl (by kernel_rfl) rfl (wants_none rfl) (yq_of (y_max (fe_t rfl) (fe_t rfl))) ?_
                  refine tb_float1 (i := 12) rfl (by kernel_rfl) (by kernel_rfl) rfl (wants_none rfl) (yq_of (y_indexI Try.underlying79 Try.sizeOf3 (fe_t rfl) (fe_t rfl) (rdl_vec 1 rfl) (by first | omega | (rw [List.length_set]; omega)) (by decide) (by omega) (by omega) (Nat.mul_one _))) ?_
                  refine tb_one2 (i := 13) rfl (by kernel_rfl) (by kernel_rfl) (wants_none rfl) (oj_storeE1 (i := 1) Try.sizeOf3 (fe_t rfl) (fe_t rfl) rfl rfl rfl (by omega) (⟨fun w h => h.pick [0, 2, 3] _ rfl (by decide), ?_⟩))
                  refine tb_done (by kernel_rfl) ?_
                  refine tx_then ?_
                  refine tr_seq ?_
                  refine tr_region ?_
                  refine tl_step rfl (oj_val (y_fieldAddr (td := 79) Try.underlying81 rfl rfl Try.sizeOf79 (o' := 2) rfl (fe_t rfl)) ?_)
                  refine tl_step rfl (oj_val (y_ldb 3 Try.isAgg79 (fe_t rfl) rfl rfl) ?_)
                  refine tl_step rfl (oj_val (y_move (fe_t rfl)) ?_)
                  refine tl_step rfl (oj_val (y_indexI Try.underlying79 Try.sizeOf3 (fe_t rfl) (fe_t rfl) (rdl_vec 1 rfl) (by first | omega | (rw [List.length_set]; omega)) (by decide) (by omega) (by omega) (Nat.mul_one _)) ?_)
                  refine tl_step rfl (oj_val (y_ld Try.isAgg3 (fe_t rfl) (rdl_vec 1 rfl) (set_get (by omega))) ?_)
                  refine tl_step rfl (oj_val (y_gtr (fe_t rfl) fe_c) ?_)
                  refine tl_nil ?_
                  refine tx_then ?_
                  refine tr_condp (fe_t rfl) (fun hq9 => ?_) (fun hq10 => ?_)
                  · try (exfalso; omega)
                    all_goals
                      refine tr_seq ?_
                      refine tr_region ?_
                      refine tl_step rfl (oj_val (y_build (is := []) (vs := []) (cs := [.int .i64 0, .int .i64 0, .slice none 0 0]) rfl fel_nil (by kernel_rfl)) ?_)
                      refine tl_step rfl (oj_storeW 2 Try.sizeOf81 (fe_t rfl) (fe_t rfl) rfl rfl rfl rfl rfl (?_))
                      refine tl_step rfl (oj_val (y_assign fe_c) ?_)
                      refine tl_nil ?_
                      refine tx_then ?_
                      refine tr_ret ?_
                      refine tx_in_ret ?_
                      refine tx_then_ret ?_
                      refine tx_then_ret ?_
                      refine tx_in_ret ?_
                      refine tx_then_ret ?_
                      refine tx_ret (res2 Try.results60 (rok_b 2 Try.isAgg81 Try.sizeOf81 rfl rfl rfl) (rok_t rfl)) (fun w' hS => ?_)
                      have hbt : bigs zs (nw true (least zs width id R) nn) width id (k + 1) = true := by rw [bigs_succ, Bool.or_eq_true, decide_eq_true_eq]; unfold nw; simp only [cond_true, cond_false]; exact .inr (by omega)
                      have hbr := bigs_mono (r := R) (by omega) hbt
                      rw [hf] at hbr
                      cases hbr
                  · try (exfalso; omega)
                    all_goals
                      refine tr_skip ?_
                      refine tx_in ?_
                      refine tx_then ?_
                      refine tr_region ?_
                      refine tl_step rfl (oj_val (y_inc (fe_t rfl) fe_c (by omega)) ?_)
                      refine tl_step rfl (oj_val (y_move (fe_t rfl)) ?_)
                      refine tl_nil ?_
                      apply tx_back2 (k + 1) (_)
                      · exact (cov_cons (by first | rfl | exact v_int (by omega) | exact v_bool (by simp [*])) (cov_nil))
                      · repeat (first | exact over_nil | refine over_put rfl ?_ | refine over_drop rfl ?_)
                      · exact fun w h => h.pick [0, 1, 2, 3] _ rfl (by decide)
                      · refine ⟨⟨by omega, by rw [hvx, upd, cI, cI, List.map_set]; first | rfl | (congr 2; unfold nw; simp only [cond_true, cond_false]; omega), ?_⟩, by omega⟩
                        rw [bigs_succ, hbg, Bool.false_or, decide_eq_false_iff_not]
                        unfold nw
                        simp only [cond_true, cond_false]
                        omega
              · try (exfalso; omega)
                all_goals
                  obtain rfl : cf = false := hq8
                  refine tr_region ?_
                  refine tl_step rfl (oj_val (y_fieldAddr (td := 79) Try.underlying81 rfl rfl Try.sizeOf79 (o' := 2) rfl (fe_t rfl)) ?_)
                  refine tl_step rfl (oj_val (y_ldb 3 Try.isAgg79 (fe_t rfl) rfl rfl) ?_)
                  refine tl_step rfl (oj_val (y_move (fe_t rfl)) ?_)
                  refine tl_step rfl (oj_val (y_indexI Try.underlying79 Try.sizeOf3 (fe_t rfl) (fe_t rfl) (rdl_vec 1 rfl) (by first | omega | (rw [List.length_set]; omega)) (by decide) (by omega) (by omega) (Nat.mul_one _)) ?_)
                  refine tl_step rfl (oj_val (y_ld (v := (.int .i64 (zs.getD ((k : Int) * width + spot k width id).toNat 0))) Try.isAgg3 (fe_t rfl) (rdl_vec 1 rfl) (by rw [hvx]; exact cI_upd w0 (by omega))) ?_)
                  refine tl_step rfl (oj_val (y_move (fe_t rfl)) ?_)
                  refine tl_step rfl (oj_val (y_add (fe_t rfl) (fe_t rfl) (by omega)) ?_)
                  refine tl_step rfl (oj_val (y_indexI Try.underlying79 Try.sizeOf3 (fe_t rfl) (fe_t rfl) (rdl_vec 1 rfl) (by first | omega | (rw [List.length_set]; omega)) (by decide) (by omega) (by omega) (Nat.mul_one _)) ?_)
                  refine tl_step rfl (oj_storeE1 (i := 1) Try.sizeOf3 (fe_t rfl) (fe_t rfl) rfl rfl rfl (by omega) (?_))
                  refine tl_nil ?_
                  refine tx_then ?_
                  refine tr_seq ?_
                  refine tr_region ?_
                  refine tl_step rfl (oj_val (y_fieldAddr (td := 79) Try.underlying81 rfl rfl Try.sizeOf79 (o' := 2) rfl (fe_t rfl)) ?_)
                  refine tl_step rfl (oj_val (y_ldb 3 Try.isAgg79 (fe_t rfl) rfl rfl) ?_)
                  refine tl_step rfl (oj_val (y_move (fe_t rfl)) ?_)
                  refine tl_step rfl (oj_val (y_indexI Try.underlying79 Try.sizeOf3 (fe_t rfl) (fe_t rfl) (rdl_vec 1 rfl) (by first | omega | (rw [List.length_set]; omega)) (by decide) (by omega) (by omega) (Nat.mul_one _)) ?_)
                  refine tl_step rfl (oj_val (y_ld Try.isAgg3 (fe_t rfl) (rdl_vec 1 rfl) (set_get (by omega))) ?_)
                  refine tl_step rfl (oj_val (y_gtr (fe_t rfl) fe_c) ?_)
                  refine tl_nil ?_
                  refine tx_then ?_
                  refine tr_condp (fe_t rfl) (fun hq11 => ?_) (fun hq12 => ?_)
                  · try (exfalso; omega)
                    all_goals
                      refine tr_seq ?_
                      refine tr_region ?_
                      refine tl_step rfl (oj_val (y_build (is := []) (vs := []) (cs := [.int .i64 0, .int .i64 0, .slice none 0 0]) rfl fel_nil (by kernel_rfl)) ?_)
                      refine tl_step rfl (oj_storeW 2 Try.sizeOf81 (fe_t rfl) (fe_t rfl) rfl rfl rfl rfl rfl (?_))
                      refine tl_step rfl (oj_val (y_assign fe_c) ?_)
                      refine tl_nil ?_
                      refine tx_then ?_
                      refine tr_ret ?_
                      refine tx_in_ret ?_
                      refine tx_then_ret ?_
                      refine tx_then_ret ?_
                      refine tx_in_ret ?_
                      refine tx_then_ret ?_
                      refine tx_ret (res2 Try.results60 (rok_b 2 Try.isAgg81 Try.sizeOf81 rfl rfl rfl) (rok_t rfl)) (fun w' hS => ?_)
                      have hbt : bigs zs (nw false (least zs width id R) nn) width id (k + 1) = true := by rw [bigs_succ, Bool.or_eq_true, decide_eq_true_eq]; unfold nw; simp only [cond_true, cond_false]; exact .inr (by omega)
                      have hbr := bigs_mono (r := R) (by omega) hbt
                      rw [hf] at hbr
                      cases hbr
                  · try (exfalso; omega)
                    all_goals
                      refine tr_skip ?_
                      refine tx_in ?_
                      refine tx_then ?_
                      refine tr_region ?_
                      refine tl_step rfl (oj_val (y_inc (fe_t rfl) fe_c (by omega)) ?_)
                      refine tl_step rfl (oj_val (y_move (fe_t rfl)) ?_)
                      refine tl_nil ?_
                      apply tx_back2 (k + 1) (_)
                      · exact (cov_cons (by first | rfl | exact v_int (by omega) | exact v_bool (by simp [*])) (cov_nil))
                      · repeat (first | exact over_nil | refine over_put rfl ?_ | refine over_drop rfl ?_)
                      · exact fun w h => h.pick [0, 1, 2, 3] _ rfl (by decide)
                      · refine ⟨⟨by omega, by rw [hvx, upd, cI, cI, List.map_set]; first | rfl | (congr 2; unfold nw; simp only [cond_true, cond_false]; omega), ?_⟩, by omega⟩
                        rw [bigs_succ, hbg, Bool.false_or, decide_eq_false_iff_not]
                        unfold nw
                        simp only [cond_true, cond_false]
                        omega
          · try (exfalso; omega)
            all_goals
              refine tr_exit ?_
              refine tx_then_exit ?_
              refine tx_then_exit ?_
              refine tx_in_exit ?_
              refine tx_then ?_
              refine tr_seq ?_
              refine tr_region ?_
              refine tl_step rfl (oj_val (y_ldbA 3 Try.isAgg81 Try.sizeOf81 (fe_t rfl) rfl rfl rfl) ?_)
              refine tl_step rfl (oj_storeW 2 Try.sizeOf81 (fe_t rfl) (fe_t rfl) rfl rfl rfl rfl rfl (?_))
              refine tl_step rfl (oj_val (y_assign fe_c) ?_)
              refine tl_nil ?_
              refine tx_then ?_
              refine tr_ret ?_
              refine tx_ret (res2 Try.results60 (rok_b 2 Try.isAgg81 Try.sizeOf81 rfl rfl rfl) (rok_t rfl)) (fun w' hS => ?_)
              obtain rfl : k = R := by omega
              exact ⟨⟨q.1, zs.length, q.2, vx⟩, ⟨hn, hvx⟩, rfl, hS.pick [1] _ rfl (by decide)⟩

set_option maxRecDepth 100000 in
set_option maxHeartbeats 4000000 in
theorem Vadd_full {width id nn : Int} {cf : Bool} (R : Nat) (A : Option Addr) (n c : Nat) (zs : List Int) (w : World) (hr : Rd w A (zs.map (.int .i64))) (hn : zs.length = n) (va : Sketch.vright (R : Int) width zs = true) (i0 : 0 ≤ id) (i1 : id < 18446744073709551616) (hn0 : 0 ≤ nn) (hn1 : nn ≤ 1073741824) (hf : bigs zs (nw cf (least zs width id R) nn) width id R = true) :
    Calls Try.prog 61 #[.agg #[(.int .i64 ((R : Int))), (.int .i64 width), .slice A n c], .int .u64 id, (.int .i64 nn), .bool cf] w fun e w' => e = .returned (.tuple #[.agg #[(.int .i64 0), (.int .i64 0), .slice none 0 0], (.int .i64 4)]) ∧ St w w' [] := by
  obtain ⟨⟨d0, d1⟩, ⟨w0, w1⟩, hln⟩ := vright_facts va
  have hR8 : (R : Int) * width ≤ 8 * 64 := Int.mul_le_mul (by omega) w1 (by omega) (by omega)
  have hlb := least_bd (id := id) va R (by omega)
  have hpos := Sketch.dims_prod (Sketch.dims_iff.2 ⟨⟨d0, d1⟩, w0, w1⟩)
  refine calls_tr Try.func61 Try.ntmps61 rfl rfl (St.refl _) ?_
  refine tr_seq ?_
  refine tr_region ?_
  refine tl_step rfl (oj_box (fe_t rfl) (fun sb => ?_))
  refine tl_step rfl (oj_alloc Try.zeroValue81 (fun rb => ?_))
  refine tl_step rfl (oj_val (y_assign fe_c) ?_)
  refine tl_nil ?_
  refine tx_then ?_
  refine tr_seq ?_
  refine tr_seq ?_
  refine tr_region ?_
  refine tl_step rfl (oj_val (y_ldbA 1 Try.isAgg81 Try.sizeOf81 (fe_t rfl) rfl rfl rfl) ?_)
  refine tl_step rfl (oj_callv Try.call64 fe_f (fel_cons (fe_t rfl) fel_nil) (fun w' hS => of_bel (Sketch.vright_yes A n c w' (Rd.below hr hS.below) hn (by omega) va)) ?_)
  refine tl_step rfl (oj_val (y_not (fe_t rfl)) ?_)
  refine tl_nil ?_
  refine tx_then ?_
  refine tr_condf (fe_t rfl) ?_
  refine tr_skip ?_
  refine tx_then ?_
  refine tr_seq ?_
  refine tr_seq ?_
  refine tr_region ?_
  refine tl_step rfl (oj_val (y_move (fe_t rfl)) ?_)
  refine tl_step rfl (oj_val (y_lss (fe_t rfl) fe_c) ?_)
  refine tl_step rfl (oj_val (y_move (fe_t rfl)) ?_)
  refine tl_splitp (d := 22) rfl (fun hq1 => ?_) (fun hq2 => ?_)
  · try (exfalso; omega)
    all_goals
      refine tl_skip rfl rfl rfl rfl ?_
      refine tl_skip rfl rfl rfl rfl ?_
      refine tl_step rfl (oj_val (y_pickt (fe_t rfl) fe_c) ?_)
      refine tl_nil ?_
      refine tx_then ?_
      exfalso; omega
  · try (exfalso; omega)
    all_goals
      refine tl_want rfl rfl rfl (oj_val (y_move (fe_t rfl)) ?_)
      refine tl_want rfl rfl rfl (oj_val (y_gtr (fe_t rfl) fe_c) ?_)
      refine tl_step rfl (oj_val (y_pickf (fe_t rfl) (fe_t rfl)) ?_)
      refine tl_nil ?_
      refine tx_then ?_
      refine tr_condp (fe_t rfl) (fun hq3 => ?_) (fun hq4 => ?_)
      · exfalso; omega
      · try (exfalso; omega)
        all_goals
          refine tr_skip ?_
          refine tx_then ?_
          refine tr_seq ?_
          refine tr_region ?_
          refine tl_step rfl (oj_val (y_ldbA 1 Try.isAgg81 Try.sizeOf81 (fe_t rfl) rfl rfl rfl) ?_)
          refine tl_step rfl (oj_alloc Try.zeroValue81 (fun ob => ?_))
          refine tl_step rfl (oj_storeW 0 Try.sizeOf81 (fe_t rfl) (fe_t rfl) rfl rfl rfl rfl rfl (?_))
          refine tl_nil ?_
          refine tx_then ?_
          refine tr_seq ?_
          refine tr_region ?_
          refine tl_step rfl (oj_slice0 Try.underlying79 Try.sizeOf3 (fun g1 => ?_))
          refine tl_step rfl (oj_val (y_fieldAddr (td := 79) Try.underlying81 rfl rfl Try.sizeOf79 (o' := 2) rfl (fe_t rfl)) ?_)
          refine tl_step rfl (oj_val (y_ldb 3 Try.isAgg79 (fe_t rfl) rfl rfl) ?_)
          refine tl_step rfl (oj_appg (i := 0) (s := 1) (z := (.int .i64 0)) (bytes := 8) Try.underlying79 (by kernel_rfl) (fe_t rfl) (fe_t rfl) rfl (rdl_out hr) (by simp; omega) (by decide) (by first | exact oneI | exact oneF (fun _ => rfl) | exact fun u hu => List.all_eq_true.1 (show List.all _ (fun x => x.oneCell') = true from rfl) u hu | (intro u hu; revert u hu; simp [Value.oneCell'])) ⟨by omega, by decide⟩ (fun Aa1 ca1 hca1 => ?_))
          refine tl_step rfl (oj_val (y_fieldAddr (td := 79) Try.underlying81 rfl rfl Try.sizeOf79 (o' := 2) rfl (fe_t rfl)) ?_)
          refine tl_step rfl (oj_store1 1 Try.sizeOf79 (fe_t rfl) (fe_t rfl) rfl rfl rfl rfl (?_))
          refine tl_nil ?_
          refine tx_then ?_
          refine tr_seq ?_
          refine tr_region ?_
          refine tl_step rfl (oj_val (y_assign fe_c) ?_)
          refine tl_nil ?_
          refine tx_then ?_
          refine tr_seq ?_
          refine tr_seq ?_
          refine tr_region ?_
          refine tl_step rfl (oj_val (y_ldbA 3 Try.isAgg81 Try.sizeOf81 (fe_t rfl) rfl rfl rfl) ?_)
          refine tl_step rfl (oj_val (y_move (fe_t rfl)) ?_)
          refine tl_step rfl (oj_call Try.call135 fe_f (fel_cons (fe_t rfl) (fel_cons (fe_t rfl) fel_nil)) (fun w' hS => vcells_ok R _ _ _ w' (by omega) w0 w1 i0 i1) (fun v hq => ?_))
          refine tl_step rfl (oj_val (y_len Try.underlying79 (fe_t rfl)) ?_)
          refine tl_step rfl (oj_val (y_move fe_c) ?_)
          refine tl_nil ?_
          refine tx_then ?_
          refine tr_block ?_
          refine tr_loop3 [11, 13, 14, 15, 37, 38, 39, 40, 41, 42, 43, 44, 45, 46, 47, 48, 49, 50, 51, 52, 53, 54, 55, 56, 57, 58, 59, 60, 61, 62, 63, 64, 65, 66, 67, 68, 69, 70, 71] (fun (k : Nat) (vx : List Value) (ms : Int) => [(37, .int .i64 (k : Int)), (11, .int .i64 ms)]) 0 (fun (k : Nat) (vx : List Value) (ms : Int) => [(1, vec 3 1 (.slice Aa1 (0 + n) ca1) (0 + n) vx)]) (fun (k : Nat) (vx : List Value) (ms : Int) => k ≤ R ∧ vx = cI (upd zs (nw cf (least zs width id R) nn) width id k) ∧ (bigs zs (nw cf (least zs width id R) nn) width id k = true ↔ 1099511627776 < ms) ∧ 0 ≤ ms ∧ ms ≤ 4398046511104) (fun (k : Nat) (vx : List Value) (ms : Int) => R - k) (0) (_) (0) (cov_cons (by first | rfl | exact v_int (by omega) | exact v_bool (by simp [*])) (cov_cons (by first | rfl | exact v_int (by omega) | exact v_bool (by simp [*])) (cov_nil))) (fun w h => h) ?_ ?_
          · try dsimp only
            exact ⟨by omega, rfl, ⟨fun h => (by cases h), fun h => (by omega)⟩, by omega, by omega⟩
          intro k vx ms hp
          obtain ⟨hk, hvx, hbg, hm0⟩ := hp
          have hvl : vx.length = n := by rw [hvx, cI, List.length_map, upd_len]; omega
          refine tr_seq ?_
          refine tr_region ?_
          refine tl_step rfl (oj_val (y_lss (fe_t rfl) (fe_t rfl)) ?_)
          refine tl_nil ?_
          refine tx_then ?_
          refine tr_seq ?_
          refine tr_condp (fe_t rfl) (fun hq5 => ?_) (fun hq6 => ?_)
          · try (exfalso; omega)
            all_goals
              refine tr_skip ?_
              refine tx_then ?_
              refine tr_seq ?_
              refine tr_block ?_
              refine tr_seq ?_
              have hsb := spots_bd (id := id) (r := R) (k := k) w0 (by omega)
              have hzb := good_getD va ((k : Int) * width + spot k width id).toNat (by omega)
              refine tr_region ?_
              refine tl_step rfl (oj_val (y_index Try.underlying79 Try.sizeOf3 (fe_t rfl) (fe_t rfl) (rdl_vec 0 rfl) (by rw [hq.2, cI, List.length_map, spots_len]; omega) (by decide) (by omega) (Nat.mul_one _)) ?_)
              refine tl_step rfl (oj_val (y_ld (v := .int .i64 ((k : Int) * width + spot k width id)) Try.isAgg3 (fe_t rfl) (rdl_vec 0 rfl) (by rw [hq.2]; exact cI_spots (by omega))) ?_)
              refine tl_step rfl (oj_val (y_assign (fe_t rfl)) ?_)
              refine tl_nil ?_
              refine tx_then ?_
              refine tr_seq ?_
              refine tr_region ?_
              refine tl_step rfl (oj_val (y_fieldAddr (td := 79) Try.underlying81 rfl rfl Try.sizeOf79 (o' := 2) rfl (fe_t rfl)) ?_)
              refine tl_step rfl (oj_val (y_ldb 4 Try.isAgg79 (fe_t rfl) rfl rfl) ?_)
              refine tl_step rfl (oj_val (y_move (fe_t rfl)) ?_)
              refine tl_step rfl (oj_val (y_indexI Try.underlying79 Try.sizeOf3 (fe_t rfl) (fe_t rfl) (rdl_out hr) (by simp; omega) (by decide) (by omega) (by omega) (Nat.mul_one _)) ?_)
              refine tl_step rfl (oj_val (y_ld Try.isAgg3 (fe_t rfl) (rdl_out hr) (getDI (by omega))) ?_)
              refine tl_step rfl (oj_val (y_move (fe_t rfl)) ?_)
              refine tl_step rfl (oj_val (y_add (fe_t rfl) (fe_t rfl) (by omega)) ?_)
              refine tl_step rfl (oj_val (y_assign (fe_t rfl)) ?_)
              refine tl_nil ?_
              refine tx_then ?_
              refine tr_seq ?_
              refine tr_seq ?_
              refine tr_region ?_
              refine tl_step rfl (oj_val (y_move (fe_t rfl)) ?_)
              refine tl_nil ?_
              refine tx_then ?_
              refine tr_cond (fe_t rfl) (fun hq7 => ?_) (fun hq8 => ?_)
              · try (exfalso; omega)
                all_goals
                  obtain rfl : cf = true := hq7
                  refine tr_seq ?_
                  refine tr_region ?_
                  refine tl_step rfl (oj_val (y_fieldAddr (td := 79) Try.underlying81 rfl rfl Try.sizeOf79 (o' := 2) rfl (fe_t rfl)) ?_)
                  refine tl_step rfl (oj_val (y_ldb 4 Try.isAgg79 (fe_t rfl) rfl rfl) ?_)
                  refine tl_step rfl (oj_val (y_move (fe_t rfl)) ?_)
                  refine tl_step rfl (oj_val (y_indexI Try.underlying79 Try.sizeOf3 (fe_t rfl) (fe_t rfl) (rdl_out hr) (by simp; omega) (by decide) (by omega) (by omega) (Nat.mul_one _)) ?_)
                  refine tl_step rfl (oj_val (y_ld Try.isAgg3 (fe_t rfl) (rdl_out hr) (getDI (by omega))) ?_)
                  refine tl_step rfl (oj_val (y_assign (fe_t rfl)) ?_)
                  refine tl_nil ?_
                  refine tx_then ?_
                  refine tr_seq ?_
                  refine tr_region ?_
                  refine tl_step rfl (oj_val (y_ldbA 4 Try.isAgg81 Try.sizeOf81 (fe_t rfl) rfl rfl rfl) ?_)
                  refine tl_step rfl (oj_val (y_move (fe_t rfl)) ?_)
                  refine tl_step rfl (oj_callv Try.call66 fe_f (fel_cons (fe_t rfl) (fel_cons (fe_t rfl) fel_nil)) (fun w' hS => vcount_ok R A n c zs w' (Rd.below hr hS.below) hn va i0 i1) ?_)
                  refine tl_step rfl (oj_val (y_move (fe_t rfl)) ?_)
                  refine tl_step rfl (oj_val (y_add (fe_t rfl) (fe_t rfl) (by omega)) ?_)
                  refine tl_step rfl (oj_val (y_assign (fe_t rfl)) ?_)
                  refine tl_nil ?_
                  refine tx_then ?_
                  refine tr_seq ?_
                  refine tr_region ?_
                  refine tl_step rfl (oj_val (y_move (fe_t rfl)) ?_)
                  refine tl_step rfl (oj_val (y_move (fe_t rfl)) ?_)
                  refine tl_step rfl (oj_val (y_gtr (fe_t rfl) (fe_t rfl)) ?_)
                  refine tl_nil ?_
                  refine tx_then ?_
                  refine tr_condp (fe_t rfl) (fun hq9 => ?_) (fun hq10 => ?_)
                  · try (exfalso; omega)
                    all_goals
                      refine tr_region ?_
                      refine tl_step rfl (oj_val (y_move (fe_t rfl)) ?_)
                      refine tl_step rfl (oj_val (y_assign (fe_t rfl)) ?_)
                      refine tl_nil ?_
                      refine tx_then ?_
                      refine tr_seq ?_
                      refine tr_region ?_
                      refine tl_step rfl (oj_val (y_fieldAddr (td := 79) Try.underlying81 rfl rfl Try.sizeOf79 (o' := 2) rfl (fe_t rfl)) ?_)
                      refine tl_step rfl (oj_val (y_ldb 2 Try.isAgg79 (fe_t rfl) rfl rfl) ?_)
                      refine tl_step rfl (oj_val (y_move (fe_t rfl)) ?_)
                      refine tl_step rfl (oj_val (y_move (fe_t rfl)) ?_)
                      refine tl_step rfl (oj_val (y_indexI Try.underlying79 Try.sizeOf3 (fe_t rfl) (fe_t rfl) (rdl_vec 1 rfl) (by first | omega | (rw [List.length_set]; omega)) (by decide) (by omega) (by omega) (Nat.mul_one _)) ?_)
                      refine tl_step rfl (oj_storeE1 (i := 1) Try.sizeOf3 (fe_t rfl) (fe_t rfl) rfl rfl rfl (by omega) (?_))
                      refine tl_nil ?_
                      refine tx_then ?_
                      refine tr_region ?_
                      refine tl_step rfl (oj_val (y_move (fe_t rfl)) ?_)
                      refine tl_step rfl (oj_val (y_move (fe_t rfl)) ?_)
                      refine tl_step rfl (oj_val (y_max (fe_t rfl) (fe_t rfl)) ?_)
                      refine tl_step rfl (oj_val (y_assign (fe_t rfl)) ?_)
                      refine tl_nil ?_
                      refine tx_in ?_
                      refine tx_then ?_
                      refine tr_region ?_
                      refine tl_step rfl (oj_val (y_inc (fe_t rfl) fe_c (by omega)) ?_)
                      refine tl_step rfl (oj_val (y_move (fe_t rfl)) ?_)
                      refine tl_nil ?_
                      apply tx_back3 (k + 1) (_) (_)
                      · exact (cov_cons (by first | rfl | exact v_int (by omega) | exact v_bool (by simp [*])) (cov_cons (by first | rfl | exact v_int (by omega) | exact v_bool (by simp [*])) (cov_nil)))
                      · repeat (first | exact over_nil | refine over_put rfl ?_ | refine over_drop rfl ?_)
                      · exact fun w h => h.pick [0, 1, 2, 3, 4] _ rfl (by decide)
                      · refine ⟨⟨by omega, by rw [hvx, upd, cI, cI, List.map_set]; first | rfl | (congr 2; unfold nw; simp only [cond_true, cond_false]; omega), ?_, by omega, by omega⟩, by omega⟩
                        rw [bigs_succ, Bool.or_eq_true, hbg, decide_eq_true_eq]
                        unfold nw
                        simp only [cond_true, cond_false]
                        omega
                  · try (exfalso; omega)
                    all_goals
                      refine tr_skip ?_
                      refine tx_then ?_
                      refine tr_seq ?_
                      refine tr_region ?_
                      refine tl_step rfl (oj_val (y_fieldAddr (td := 79) Try.underlying81 rfl rfl Try.sizeOf79 (o' := 2) rfl (fe_t rfl)) ?_)
                      refine tl_step rfl (oj_val (y_ldb 2 Try.isAgg79 (fe_t rfl) rfl rfl) ?_)
                      refine tl_step rfl (oj_val (y_move (fe_t rfl)) ?_)
                      refine tl_step rfl (oj_val (y_move (fe_t rfl)) ?_)
                      refine tl_step rfl (oj_val (y_indexI Try.underlying79 Try.sizeOf3 (fe_t rfl) (fe_t rfl) (rdl_vec 1 rfl) (by first | omega | (rw [List.length_set]; omega)) (by decide) (by omega) (by omega) (Nat.mul_one _)) ?_)
                      refine tl_step rfl (oj_storeE1 (i := 1) Try.sizeOf3 (fe_t rfl) (fe_t rfl) rfl rfl rfl (by omega) (?_))
                      refine tl_nil ?_
                      refine tx_then ?_
                      refine tr_region ?_
                      refine tl_step rfl (oj_val (y_move (fe_t rfl)) ?_)
                      refine tl_step rfl (oj_val (y_move (fe_t rfl)) ?_)
                      refine tl_step rfl (oj_val (y_max (fe_t rfl) (fe_t rfl)) ?_)
                      refine tl_step rfl (oj_val (y_assign (fe_t rfl)) ?_)
                      refine tl_nil ?_
                      refine tx_in ?_
                      refine tx_then ?_
                      refine tr_region ?_
                      refine tl_step rfl (oj_val (y_inc (fe_t rfl) fe_c (by omega)) ?_)
                      refine tl_step rfl (oj_val (y_move (fe_t rfl)) ?_)
                      refine tl_nil ?_
                      apply tx_back3 (k + 1) (_) (_)
                      · exact (cov_cons (by first | rfl | exact v_int (by omega) | exact v_bool (by simp [*])) (cov_cons (by first | rfl | exact v_int (by omega) | exact v_bool (by simp [*])) (cov_nil)))
                      · repeat (first | exact over_nil | refine over_put rfl ?_ | refine over_drop rfl ?_)
                      · exact fun w h => h.pick [0, 1, 2, 3, 4] _ rfl (by decide)
                      · refine ⟨⟨by omega, by rw [hvx, upd, cI, cI, List.map_set]; first | rfl | (congr 2; unfold nw; simp only [cond_true, cond_false]; omega), ?_, by omega, by omega⟩, by omega⟩
                        rw [bigs_succ, Bool.or_eq_true, hbg, decide_eq_true_eq]
                        unfold nw
                        simp only [cond_true, cond_false]
                        omega
              · try (exfalso; omega)
                all_goals
                  obtain rfl : cf = false := hq8
                  refine tr_skip ?_
                  refine tx_then ?_
                  refine tr_seq ?_
                  refine tr_region ?_
                  refine tl_step rfl (oj_val (y_fieldAddr (td := 79) Try.underlying81 rfl rfl Try.sizeOf79 (o' := 2) rfl (fe_t rfl)) ?_)
                  refine tl_step rfl (oj_val (y_ldb 2 Try.isAgg79 (fe_t rfl) rfl rfl) ?_)
                  refine tl_step rfl (oj_val (y_move (fe_t rfl)) ?_)
                  refine tl_step rfl (oj_val (y_move (fe_t rfl)) ?_)
                  refine tl_step rfl (oj_val (y_indexI Try.underlying79 Try.sizeOf3 (fe_t rfl) (fe_t rfl) (rdl_vec 1 rfl) (by first | omega | (rw [List.length_set]; omega)) (by decide) (by omega) (by omega) (Nat.mul_one _)) ?_)
                  refine tl_step rfl (oj_storeE1 (i := 1) Try.sizeOf3 (fe_t rfl) (fe_t rfl) rfl rfl rfl (by omega) (?_))
                  refine tl_nil ?_
                  refine tx_then ?_
                  refine tr_region ?_
                  refine tl_step rfl (oj_val (y_move (fe_t rfl)) ?_)
                  refine tl_step rfl (oj_val (y_move (fe_t rfl)) ?_)
                  refine tl_step rfl (oj_val (y_max (fe_t rfl) (fe_t rfl)) ?_)
                  refine tl_step rfl (oj_val (y_assign (fe_t rfl)) ?_)
                  refine tl_nil ?_
                  refine tx_in ?_
                  refine tx_then ?_
                  refine tr_region ?_
                  refine tl_step rfl (oj_val (y_inc (fe_t rfl) fe_c (by omega)) ?_)
                  refine tl_step rfl (oj_val (y_move (fe_t rfl)) ?_)
                  refine tl_nil ?_
                  apply tx_back3 (k + 1) (_) (_)
                  · exact (cov_cons (by first | rfl | exact v_int (by omega) | exact v_bool (by simp [*])) (cov_cons (by first | rfl | exact v_int (by omega) | exact v_bool (by simp [*])) (cov_nil)))
                  · repeat (first | exact over_nil | refine over_put rfl ?_ | refine over_drop rfl ?_)
                  · exact fun w h => h.pick [0, 1, 2, 3, 4] _ rfl (by decide)
                  · refine ⟨⟨by omega, by rw [hvx, upd, cI, cI, List.map_set]; first | rfl | (congr 2; unfold nw; simp only [cond_true, cond_false]; omega), ?_, by omega, by omega⟩, by omega⟩
                    rw [bigs_succ, Bool.or_eq_true, hbg, decide_eq_true_eq]
                    unfold nw
                    simp only [cond_true, cond_false]
                    omega
          · try (exfalso; omega)
            all_goals
              refine tr_exit ?_
              refine tx_then_exit ?_
              refine tx_then_exit ?_
              refine tx_in_exit ?_
              refine tx_then ?_
              refine tr_seq ?_
              refine tr_seq ?_
              refine tr_region ?_
              refine tl_step rfl (oj_val (y_move (fe_t rfl)) ?_)
              refine tl_step rfl (oj_val (y_gtr (fe_t rfl) fe_c) ?_)
              refine tl_nil ?_
              refine tx_then ?_
              refine tr_condp (fe_t rfl) (fun hq11 => ?_) (fun hq12 => ?_)
              · try (exfalso; omega)
                all_goals
                  refine tr_seq ?_
                  refine tr_region ?_
                  refine tl_step rfl (oj_val (y_build (is := []) (vs := []) (cs := [.int .i64 0, .int .i64 0, .slice none 0 0]) rfl fel_nil (by kernel_rfl)) ?_)
                  refine tl_step rfl (oj_storeW 3 Try.sizeOf81 (fe_t rfl) (fe_t rfl) rfl rfl rfl rfl rfl (?_))
                  refine tl_step rfl (oj_val (y_assign fe_c) ?_)
                  refine tl_nil ?_
                  refine tx_then ?_
                  refine tr_ret ?_
                  refine tx_then_ret ?_
                  refine tx_ret (res2 Try.results61 (rok_b 3 Try.isAgg81 Try.sizeOf81 rfl rfl rfl) (rok_t rfl)) (fun w' hS => ?_)
                  obtain rfl : k = R := by omega
                  exact ⟨rfl, hS.pick [] _ rfl (by decide)⟩
              · try (exfalso; omega)
                all_goals
                  refine tr_skip ?_
                  refine tx_then ?_
                  refine tr_seq ?_
                  refine tr_region ?_
                  refine tl_step rfl (oj_val (y_ldbA 2 Try.isAgg81 Try.sizeOf81 (fe_t rfl) rfl rfl rfl) ?_)
                  refine tl_step rfl (oj_storeW 3 Try.sizeOf81 (fe_t rfl) (fe_t rfl) rfl rfl rfl rfl rfl (?_))
                  refine tl_step rfl (oj_val (y_assign fe_c) ?_)
                  refine tl_nil ?_
                  refine tx_then ?_
                  refine tr_ret ?_
                  refine tx_ret (res2 Try.results61 (rok_b 3 Try.isAgg81 Try.sizeOf81 rfl rfl rfl) (rok_t rfl)) (fun w' hS => ?_)
                  obtain rfl : k = R := by omega
                  have hbt := hbg.1 hf
                  exfalso
                  omega

set_option maxRecDepth 100000 in
set_option maxHeartbeats 4000000 in
theorem Vadd_ok {width id nn : Int} {cf : Bool} (R : Nat) (A : Option Addr) (n c : Nat) (zs : List Int) (w : World) (hr : Rd w A (zs.map (.int .i64))) (hn : zs.length = n) (va : Sketch.vright (R : Int) width zs = true) (i0 : 0 ≤ id) (i1 : id < 18446744073709551616) (hn0 : 0 ≤ nn) (hn1 : nn ≤ 1073741824) (hf : bigs zs (nw cf (least zs width id R) nn) width id R = false) :
    Calls Try.prog 61 #[.agg #[(.int .i64 ((R : Int))), (.int .i64 width), .slice A n c], .int .u64 id, (.int .i64 nn), .bool cf] w fun e w' => ∃ v : Vs, (v.n = n ∧ v.xs = cI (upd zs (nw cf (least zs width id R) nn) width id R)) ∧ e = .returned (.tuple #[.agg #[(.int .i64 ((R : Int))), (.int .i64 width), .slice v.A v.n v.c], (.int .i64 0)]) ∧ St w w' [vec 3 1 (.slice v.A v.n v.c) v.n v.xs] := by
  obtain ⟨⟨d0, d1⟩, ⟨w0, w1⟩, hln⟩ := vright_facts va
  have hR8 : (R : Int) * width ≤ 8 * 64 := Int.mul_le_mul (by omega) w1 (by omega) (by omega)
  have hlb := least_bd (id := id) va R (by omega)
  have hpos := Sketch.dims_prod (Sketch.dims_iff.2 ⟨⟨d0, d1⟩, w0, w1⟩)
  refine calls_tr Try.func61 Try.ntmps61 rfl rfl (St.refl _) ?_
  refine tr_seq ?_
  refine tr_region ?_
  refine tl_step rfl (oj_box (fe_t rfl) (fun sb => ?_))
  refine tl_step rfl (oj_alloc Try.zeroValue81 (fun rb => ?_))
  refine tl_step rfl (oj_val (y_assign fe_c) ?_)
  refine tl_nil ?_
  refine tx_then ?_
  refine tr_seq ?_
  refine tr_seq ?_
  refine tr_region ?_
  refine tl_step rfl (oj_val (y_ldbA 1 Try.isAgg81 Try.sizeOf81 (fe_t rfl) rfl rfl rfl) ?_)
  refine tl_step rfl (oj_callv Try.call64 fe_f (fel_cons (fe_t rfl) fel_nil) (fun w' hS => of_bel (Sketch.vright_yes A n c w' (Rd.below hr hS.below) hn (by omega) va)) ?_)
  refine tl_step rfl (oj_val (y_not (fe_t rfl)) ?_)
  refine tl_nil ?_
  refine tx_then ?_
  refine tr_condf (fe_t rfl) ?_
  refine tr_skip ?_
  refine tx_then ?_
  refine tr_seq ?_
  refine tr_seq ?_
  refine tr_region ?_
  refine tl_step rfl (oj_val (y_move (fe_t rfl)) ?_)
  refine tl_step rfl (oj_val (y_lss (fe_t rfl) fe_c) ?_)
  refine tl_step rfl (oj_val (y_move (fe_t rfl)) ?_)
  refine tl_splitp (d := 22) rfl (fun hq1 => ?_) (fun hq2 => ?_)
  · try (exfalso; omega)
    all_goals
      refine tl_skip rfl rfl rfl rfl ?_
      refine tl_skip rfl rfl rfl rfl ?_
      refine tl_step rfl (oj_val (y_pickt (fe_t rfl) fe_c) ?_)
      refine tl_nil ?_
      refine tx_then ?_
      exfalso; omega
  · try (exfalso; omega)
    all_goals
      refine tl_want rfl rfl rfl (oj_val (y_move (fe_t rfl)) ?_)
      refine tl_want rfl rfl rfl (oj_val (y_gtr (fe_t rfl) fe_c) ?_)
      refine tl_step rfl (oj_val (y_pickf (fe_t rfl) (fe_t rfl)) ?_)
      refine tl_nil ?_
      refine tx_then ?_
      refine tr_condp (fe_t rfl) (fun hq3 => ?_) (fun hq4 => ?_)
      · exfalso; omega
      · try (exfalso; omega)
        all_goals
          refine tr_skip ?_
          refine tx_then ?_
          refine tr_seq ?_
          refine tr_region ?_
          refine tl_step rfl (oj_val (y_ldbA 1 Try.isAgg81 Try.sizeOf81 (fe_t rfl) rfl rfl rfl) ?_)
          refine tl_step rfl (oj_alloc Try.zeroValue81 (fun ob => ?_))
          refine tl_step rfl (oj_storeW 0 Try.sizeOf81 (fe_t rfl) (fe_t rfl) rfl rfl rfl rfl rfl (?_))
          refine tl_nil ?_
          refine tx_then ?_
          refine tr_seq ?_
          refine tr_region ?_
          refine tl_step rfl (oj_slice0 Try.underlying79 Try.sizeOf3 (fun g1 => ?_))
          refine tl_step rfl (oj_val (y_fieldAddr (td := 79) Try.underlying81 rfl rfl Try.sizeOf79 (o' := 2) rfl (fe_t rfl)) ?_)
          refine tl_step rfl (oj_val (y_ldb 3 Try.isAgg79 (fe_t rfl) rfl rfl) ?_)
          refine tl_step rfl (oj_appg (i := 0) (s := 1) (z := (.int .i64 0)) (bytes := 8) Try.underlying79 (by kernel_rfl) (fe_t rfl) (fe_t rfl) rfl (rdl_out hr) (by simp; omega) (by decide) (by first | exact oneI | exact oneF (fun _ => rfl) | exact fun u hu => List.all_eq_true.1 (show List.all _ (fun x => x.oneCell') = true from rfl) u hu | (intro u hu; revert u hu; simp [Value.oneCell'])) ⟨by omega, by decide⟩ (fun Aa1 ca1 hca1 => ?_))
          refine tl_step rfl (oj_val (y_fieldAddr (td := 79) Try.underlying81 rfl rfl Try.sizeOf79 (o' := 2) rfl (fe_t rfl)) ?_)
          refine tl_step rfl (oj_store1 1 Try.sizeOf79 (fe_t rfl) (fe_t rfl) rfl rfl rfl rfl (?_))
          refine tl_nil ?_
          refine tx_then ?_
          refine tr_seq ?_
          refine tr_region ?_
          refine tl_step rfl (oj_val (y_assign fe_c) ?_)
          refine tl_nil ?_
          refine tx_then ?_
          refine tr_seq ?_
          refine tr_seq ?_
          refine tr_region ?_
          refine tl_step rfl (oj_val (y_ldbA 3 Try.isAgg81 Try.sizeOf81 (fe_t rfl) rfl rfl rfl) ?_)
          refine tl_step rfl (oj_val (y_move (fe_t rfl)) ?_)
          refine tl_step rfl (oj_call Try.call135 fe_f (fel_cons (fe_t rfl) (fel_cons (fe_t rfl) fel_nil)) (fun w' hS => vcells_ok R _ _ _ w' (by omega) w0 w1 i0 i1) (fun v hq => ?_))
          refine tl_step rfl (oj_val (y_len Try.underlying79 (fe_t rfl)) ?_)
          refine tl_step rfl (oj_val (y_move fe_c) ?_)
          refine tl_nil ?_
          refine tx_then ?_
          refine tr_block ?_
          refine tr_loop3 [11, 13, 14, 15, 37, 38, 39, 40, 41, 42, 43, 44, 45, 46, 47, 48, 49, 50, 51, 52, 53, 54, 55, 56, 57, 58, 59, 60, 61, 62, 63, 64, 65, 66, 67, 68, 69, 70, 71] (fun (k : Nat) (vx : List Value) (ms : Int) => [(37, .int .i64 (k : Int)), (11, .int .i64 ms)]) 0 (fun (k : Nat) (vx : List Value) (ms : Int) => [(1, vec 3 1 (.slice Aa1 (0 + n) ca1) (0 + n) vx)]) (fun (k : Nat) (vx : List Value) (ms : Int) => k ≤ R ∧ vx = cI (upd zs (nw cf (least zs width id R) nn) width id k) ∧ (bigs zs (nw cf (least zs width id R) nn) width id k = true ↔ 1099511627776 < ms) ∧ 0 ≤ ms ∧ ms ≤ 4398046511104) (fun (k : Nat) (vx : List Value) (ms : Int) => R - k) (0) (_) (0) (cov_cons (by first | rfl | exact v_int (by omega) | exact v_bool (by simp [*])) (cov_cons (by first | rfl | exact v_int (by omega) | exact v_bool (by simp [*])) (cov_nil))) (fun w h => h) ?_ ?_
          · try dsimp only
            exact ⟨by omega, rfl, ⟨fun h => (by cases h), fun h => (by omega)⟩, by omega, by omega⟩
          intro k vx ms hp
          obtain ⟨hk, hvx, hbg, hm0⟩ := hp
          have hvl : vx.length = n := by rw [hvx, cI, List.length_map, upd_len]; omega
          refine tr_seq ?_
          refine tr_region ?_
          refine tl_step rfl (oj_val (y_lss (fe_t rfl) (fe_t rfl)) ?_)
          refine tl_nil ?_
          refine tx_then ?_
          refine tr_seq ?_
          refine tr_condp (fe_t rfl) (fun hq5 => ?_) (fun hq6 => ?_)
          · try (exfalso; omega)
            all_goals
              refine tr_skip ?_
              refine tx_then ?_
              refine tr_seq ?_
              refine tr_block ?_
              refine tr_seq ?_
              have hsb := spots_bd (id := id) (r := R) (k := k) w0 (by omega)
              have hzb := good_getD va ((k : Int) * width + spot k width id).toNat (by omega)
              refine tr_region ?_
              refine tl_step rfl (oj_val (y_index Try.underlying79 Try.sizeOf3 (fe_t rfl) (fe_t rfl) (rdl_vec 0 rfl) (by rw [hq.2, cI, List.length_map, spots_len]; omega) (by decide) (by omega) (Nat.mul_one _)) ?_)
              refine tl_step rfl (oj_val (y_ld (v := .int .i64 ((k : Int) * width + spot k width id)) Try.isAgg3 (fe_t rfl) (rdl_vec 0 rfl) (by rw [hq.2]; exact cI_spots (by omega))) ?_)
              refine tl_step rfl (oj_val (y_assign (fe_t rfl)) ?_)
              refine tl_nil ?_
              refine tx_then ?_
              refine tr_seq ?_
              refine tr_region ?_
              refine tl_step rfl (oj_val (y_fieldAddr (td := 79) Try.underlying81 rfl rfl Try.sizeOf79 (o' := 2) rfl (fe_t rfl)) ?_)
              refine tl_step rfl (oj_val (y_ldb 4 Try.isAgg79 (fe_t rfl) rfl rfl) ?_)
              refine tl_step rfl (oj_val (y_move (fe_t rfl)) ?_)
              refine tl_step rfl (oj_val (y_indexI Try.underlying79 Try.sizeOf3 (fe_t rfl) (fe_t rfl) (rdl_out hr) (by simp; omega) (by decide) (by omega) (by omega) (Nat.mul_one _)) ?_)
              refine tl_step rfl (oj_val (y_ld Try.isAgg3 (fe_t rfl) (rdl_out hr) (getDI (by omega))) ?_)
              refine tl_step rfl (oj_val (y_move (fe_t rfl)) ?_)
              refine tl_step rfl (oj_val (y_add (fe_t rfl) (fe_t rfl) (by omega)) ?_)
              refine tl_step rfl (oj_val (y_assign (fe_t rfl)) ?_)
              refine tl_nil ?_
              refine tx_then ?_
              refine tr_seq ?_
              refine tr_seq ?_
              refine tr_region ?_
              refine tl_step rfl (oj_val (y_move (fe_t rfl)) ?_)
              refine tl_nil ?_
              refine tx_then ?_
              refine tr_cond (fe_t rfl) (fun hq7 => ?_) (fun hq8 => ?_)
              · try (exfalso; omega)
                all_goals
                  obtain rfl : cf = true := hq7
                  refine tr_seq ?_
                  refine tr_region ?_
                  refine tl_step rfl (oj_val (y_fieldAddr (td := 79) Try.underlying81 rfl rfl Try.sizeOf79 (o' := 2) rfl (fe_t rfl)) ?_)
                  refine tl_step rfl (oj_val (y_ldb 4 Try.isAgg79 (fe_t rfl) rfl rfl) ?_)
                  refine tl_step rfl (oj_val (y_move (fe_t rfl)) ?_)
                  refine tl_step rfl (oj_val (y_indexI Try.underlying79 Try.sizeOf3 (fe_t rfl) (fe_t rfl) (rdl_out hr) (by simp; omega) (by decide) (by omega) (by omega) (Nat.mul_one _)) ?_)
                  refine tl_step rfl (oj_val (y_ld Try.isAgg3 (fe_t rfl) (rdl_out hr) (getDI (by omega))) ?_)
                  refine tl_step rfl (oj_val (y_assign (fe_t rfl)) ?_)
                  refine tl_nil ?_
                  refine tx_then ?_
                  refine tr_seq ?_
                  refine tr_region ?_
                  refine tl_step rfl (oj_val (y_ldbA 4 Try.isAgg81 Try.sizeOf81 (fe_t rfl) rfl rfl rfl) ?_)
                  refine tl_step rfl (oj_val (y_move (fe_t rfl)) ?_)
                  refine tl_step rfl (oj_callv Try.call66 fe_f (fel_cons (fe_t rfl) (fel_cons (fe_t rfl) fel_nil)) (fun w' hS => vcount_ok R A n c zs w' (Rd.below hr hS.below) hn va i0 i1) ?_)
                  refine tl_step rfl (oj_val (y_move (fe_t rfl)) ?_)
                  refine tl_step rfl (oj_val (y_add (fe_t rfl) (fe_t rfl) (by omega)) ?_)
                  refine tl_step rfl (oj_val (y_assign (fe_t rfl)) ?_)
                  refine tl_nil ?_
                  refine tx_then ?_
                  refine tr_seq ?_
                  refine tr_region ?_
                  refine tl_step rfl (oj_val (y_move (fe_t rfl)) ?_)
                  refine tl_step rfl (oj_val (y_move (fe_t rfl)) ?_)
                  refine tl_step rfl (oj_val (y_gtr (fe_t rfl) (fe_t rfl)) ?_)
                  refine tl_nil ?_
                  refine tx_then ?_
                  refine tr_condp (fe_t rfl) (fun hq9 => ?_) (fun hq10 => ?_)
                  · try (exfalso; omega)
                    all_goals
                      refine tr_region ?_
                      refine tl_step rfl (oj_val (y_move (fe_t rfl)) ?_)
                      refine tl_step rfl (oj_val (y_assign (fe_t rfl)) ?_)
                      refine tl_nil ?_
                      refine tx_then ?_
                      refine tr_seq ?_
                      refine tr_region ?_
                      refine tl_step rfl (oj_val (y_fieldAddr (td := 79) Try.underlying81 rfl rfl Try.sizeOf79 (o' := 2) rfl (fe_t rfl)) ?_)
                      refine tl_step rfl (oj_val (y_ldb 2 Try.isAgg79 (fe_t rfl) rfl rfl) ?_)
                      refine tl_step rfl (oj_val (y_move (fe_t rfl)) ?_)
                      refine tl_step rfl (oj_val (y_move (fe_t rfl)) ?_)
                      refine tl_step rfl (oj_val (y_indexI Try.underlying79 Try.sizeOf3 (fe_t rfl) (fe_t rfl) (rdl_vec 1 rfl) (by first | omega | (rw [List.length_set]; omega)) (by decide) (by omega) (by omega) (Nat.mul_one _)) ?_)
                      refine tl_step rfl (oj_storeE1 (i := 1) Try.sizeOf3 (fe_t rfl) (fe_t rfl) rfl rfl rfl (by omega) (?_))
                      refine tl_nil ?_
                      refine tx_then ?_
                      refine tr_region ?_
                      refine tl_step rfl (oj_val (y_move (fe_t rfl)) ?_)
                      refine tl_step rfl (oj_val (y_move (fe_t rfl)) ?_)
                      refine tl_step rfl (oj_val (y_max (fe_t rfl) (fe_t rfl)) ?_)
                      refine tl_step rfl (oj_val (y_assign (fe_t rfl)) ?_)
                      refine tl_nil ?_
                      refine tx_in ?_
                      refine tx_then ?_
                      refine tr_region ?_
                      refine tl_step rfl (oj_val (y_inc (fe_t rfl) fe_c (by omega)) ?_)
                      refine tl_step rfl (oj_val (y_move (fe_t rfl)) ?_)
                      refine tl_nil ?_
                      apply tx_back3 (k + 1) (_) (_)
                      · exact (cov_cons (by first | rfl | exact v_int (by omega) | exact v_bool (by simp [*])) (cov_cons (by first | rfl | exact v_int (by omega) | exact v_bool (by simp [*])) (cov_nil)))
                      · repeat (first | exact over_nil | refine over_put rfl ?_ | refine over_drop rfl ?_)
                      · exact fun w h => h.pick [0, 1, 2, 3, 4] _ rfl (by decide)
                      · refine ⟨⟨by omega, by rw [hvx, upd, cI, cI, List.map_set]; first | rfl | (congr 2; unfold nw; simp only [cond_true, cond_false]; omega), ?_, by omega, by omega⟩, by omega⟩
                        rw [bigs_succ, Bool.or_eq_true, hbg, decide_eq_true_eq]
                        unfold nw
                        simp only [cond_true, cond_false]
                        omega
                  · try (exfalso; omega)
                    all_goals
                      refine tr_skip ?_
                      refine tx_then ?_
                      refine tr_seq ?_
                      refine tr_region ?_
                      refine tl_step rfl (oj_val (y_fieldAddr (td := 79) Try.underlying81 rfl rfl Try.sizeOf79 (o' := 2) rfl (fe_t rfl)) ?_)
                      refine tl_step rfl (oj_val (y_ldb 2 Try.isAgg79 (fe_t rfl) rfl rfl) ?_)
                      refine tl_step rfl (oj_val (y_move (fe_t rfl)) ?_)
                      refine tl_step rfl (oj_val (y_move (fe_t rfl)) ?_)
                      refine tl_step rfl (oj_val (y_indexI Try.underlying79 Try.sizeOf3 (fe_t rfl) (fe_t rfl) (rdl_vec 1 rfl) (by first | omega | (rw [List.length_set]; omega)) (by decide) (by omega) (by omega) (Nat.mul_one _)) ?_)
                      refine tl_step rfl (oj_storeE1 (i := 1) Try.sizeOf3 (fe_t rfl) (fe_t rfl) rfl rfl rfl (by omega) (?_))
                      refine tl_nil ?_
                      refine tx_then ?_
                      refine tr_region ?_
                      refine tl_step rfl (oj_val (y_move (fe_t rfl)) ?_)
                      refine tl_step rfl (oj_val (y_move (fe_t rfl)) ?_)
                      refine tl_step rfl (oj_val (y_max (fe_t rfl) (fe_t rfl)) ?_)
                      refine tl_step rfl (oj_val (y_assign (fe_t rfl)) ?_)
                      refine tl_nil ?_
                      refine tx_in ?_
                      refine tx_then ?_
                      refine tr_region ?_
                      refine tl_step rfl (oj_val (y_inc (fe_t rfl) fe_c (by omega)) ?_)
                      refine tl_step rfl (oj_val (y_move (fe_t rfl)) ?_)
                      refine tl_nil ?_
                      apply tx_back3 (k + 1) (_) (_)
                      · exact (cov_cons (by first | rfl | exact v_int (by omega) | exact v_bool (by simp [*])) (cov_cons (by first | rfl | exact v_int (by omega) | exact v_bool (by simp [*])) (cov_nil)))
                      · repeat (first | exact over_nil | refine over_put rfl ?_ | refine over_drop rfl ?_)
                      · exact fun w h => h.pick [0, 1, 2, 3, 4] _ rfl (by decide)
                      · refine ⟨⟨by omega, by rw [hvx, upd, cI, cI, List.map_set]; first | rfl | (congr 2; unfold nw; simp only [cond_true, cond_false]; omega), ?_, by omega, by omega⟩, by omega⟩
                        rw [bigs_succ, Bool.or_eq_true, hbg, decide_eq_true_eq]
                        unfold nw
                        simp only [cond_true, cond_false]
                        omega
              · try (exfalso; omega)
                all_goals
                  obtain rfl : cf = false := hq8
                  refine tr_skip ?_
                  refine tx_then ?_
                  refine tr_seq ?_
                  refine tr_region ?_
                  refine tl_step rfl (oj_val (y_fieldAddr (td := 79) Try.underlying81 rfl rfl Try.sizeOf79 (o' := 2) rfl (fe_t rfl)) ?_)
                  refine tl_step rfl (oj_val (y_ldb 2 Try.isAgg79 (fe_t rfl) rfl rfl) ?_)
                  refine tl_step rfl (oj_val (y_move (fe_t rfl)) ?_)
                  refine tl_step rfl (oj_val (y_move (fe_t rfl)) ?_)
                  refine tl_step rfl (oj_val (y_indexI Try.underlying79 Try.sizeOf3 (fe_t rfl) (fe_t rfl) (rdl_vec 1 rfl) (by first | omega | (rw [List.length_set]; omega)) (by decide) (by omega) (by omega) (Nat.mul_one _)) ?_)
                  refine tl_step rfl (oj_storeE1 (i := 1) Try.sizeOf3 (fe_t rfl) (fe_t rfl) rfl rfl rfl (by omega) (?_))
                  refine tl_nil ?_
                  refine tx_then ?_
                  refine tr_region ?_
                  refine tl_step rfl (oj_val (y_move (fe_t rfl)) ?_)
                  refine tl_step rfl (oj_val (y_move (fe_t rfl)) ?_)
                  refine tl_step rfl (oj_val (y_max (fe_t rfl) (fe_t rfl)) ?_)
                  refine tl_step rfl (oj_val (y_assign (fe_t rfl)) ?_)
                  refine tl_nil ?_
                  refine tx_in ?_
                  refine tx_then ?_
                  refine tr_region ?_
                  refine tl_step rfl (oj_val (y_inc (fe_t rfl) fe_c (by omega)) ?_)
                  refine tl_step rfl (oj_val (y_move (fe_t rfl)) ?_)
                  refine tl_nil ?_
                  apply tx_back3 (k + 1) (_) (_)
                  · exact (cov_cons (by first | rfl | exact v_int (by omega) | exact v_bool (by simp [*])) (cov_cons (by first | rfl | exact v_int (by omega) | exact v_bool (by simp [*])) (cov_nil)))
                  · repeat (first | exact over_nil | refine over_put rfl ?_ | refine over_drop rfl ?_)
                  · exact fun w h => h.pick [0, 1, 2, 3, 4] _ rfl (by decide)
                  · refine ⟨⟨by omega, by rw [hvx, upd, cI, cI, List.map_set]; first | rfl | (congr 2; unfold nw; simp only [cond_true, cond_false]; omega), ?_, by omega, by omega⟩, by omega⟩
                    rw [bigs_succ, Bool.or_eq_true, hbg, decide_eq_true_eq]
                    unfold nw
                    simp only [cond_true, cond_false]
                    omega
          · try (exfalso; omega)
            all_goals
              refine tr_exit ?_
              refine tx_then_exit ?_
              refine tx_then_exit ?_
              refine tx_in_exit ?_
              refine tx_then ?_
              refine tr_seq ?_
              refine tr_seq ?_
              refine tr_region ?_
              refine tl_step rfl (oj_val (y_move (fe_t rfl)) ?_)
              refine tl_step rfl (oj_val (y_gtr (fe_t rfl) fe_c) ?_)
              refine tl_nil ?_
              refine tx_then ?_
              refine tr_condp (fe_t rfl) (fun hq11 => ?_) (fun hq12 => ?_)
              · try (exfalso; omega)
                all_goals
                  refine tr_seq ?_
                  refine tr_region ?_
                  refine tl_step rfl (oj_val (y_build (is := []) (vs := []) (cs := [.int .i64 0, .int .i64 0, .slice none 0 0]) rfl fel_nil (by kernel_rfl)) ?_)
                  refine tl_step rfl (oj_storeW 3 Try.sizeOf81 (fe_t rfl) (fe_t rfl) rfl rfl rfl rfl rfl (?_))
                  refine tl_step rfl (oj_val (y_assign fe_c) ?_)
                  refine tl_nil ?_
                  refine tx_then ?_
                  refine tr_ret ?_
                  refine tx_then_ret ?_
                  refine tx_ret (res2 Try.results61 (rok_b 3 Try.isAgg81 Try.sizeOf81 rfl rfl rfl) (rok_t rfl)) (fun w' hS => ?_)
                  obtain rfl : k = R := by omega
                  have hbt := hbg.2 (by omega)
                  rw [hf] at hbt
                  cases hbt
              · try (exfalso; omega)
                all_goals
                  refine tr_skip ?_
                  refine tx_then ?_
                  refine tr_seq ?_
                  refine tr_region ?_
                  refine tl_step rfl (oj_val (y_ldbA 2 Try.isAgg81 Try.sizeOf81 (fe_t rfl) rfl rfl rfl) ?_)
                  refine tl_step rfl (oj_storeW 3 Try.sizeOf81 (fe_t rfl) (fe_t rfl) rfl rfl rfl rfl rfl (?_))
                  refine tl_step rfl (oj_val (y_assign fe_c) ?_)
                  refine tl_nil ?_
                  refine tx_then ?_
                  refine tr_ret ?_
                  refine tx_ret (res2 Try.results61 (rok_b 3 Try.isAgg81 Try.sizeOf81 rfl rfl rfl) (rok_t rfl)) (fun w' hS => ?_)
                  obtain rfl : k = R := by omega
                  exact ⟨⟨Aa1, 0 + n, ca1, vx⟩, ⟨Nat.zero_add n, hvx⟩, rfl, hS.pick [1] _ rfl (by decide)⟩

end Go.Proofs.Ytcpdelkamckmfaa.Frac
