/- The walk of the law MeterColours. -/
import Derived.Test.YtdfjeoifeladfaaMeterV
namespace Go.Proofs.Ytdfjeoifeladfaa.MeterColours
open Go.RowKit Go.Proofs.Ytdfjeoifeladfaa.Meter Go.Proofs.Ytdfjeoifeladfaa.E

theorem eq_mtr {x y : Operand} (a b c d e f : Int) (w : World) : (do eqGuard .eql 23 x y (.agg #[(.int .i64 a), (.int .i64 b), (.int .i64 c), (.int .i64 d), (.int .i64 e), (.int .i64 f)]) (.agg #[(.int .i64 a), (.int .i64 b), (.int .i64 c), (.int .i64 d), (.int .i64 e), (.int .i64 f)]); binOp .eql 23 (.agg #[(.int .i64 a), (.int .i64 b), (.int .i64 c), (.int .i64 d), (.int .i64 e), (.int .i64 f)]) (.agg #[(.int .i64 a), (.int .i64 b), (.int .i64 c), (.int .i64 d), (.int .i64 e), (.int .i64 f)]) : Sem Value).run Try.prog w = .ok (.bool true) w := by
  have e1 : ∀ x y, Op.equal 23 x y = Op.equalIn (9998 + 1 + 1) 23 x y := fun _ _ => rfl
  simp [eqGuard, binOp, e1, go_sem]
theorem y_eqb {P : Program} {N : Nat} {w0 : World} {F : Frm} {L : List Res} {d : Option Tmp} {x y : Operand} {ty t t' : TypeId} {pos : String} {af : Array Edge} {gd : Option (Nat × Bool)} {a : Bool} (hu : P.underlying t = some .bool) (hx : FE N F x (.bool a)) (hy : FE N F y (.bool a)) : Yld P N w0 F L ⟨d, .binOp .eql t x y t', ty, pos, af, gd⟩ (.bool true) := y_binop hx hy fun w => by simp [eqGuard, run_eql_bool w t a a hu]

set_option maxRecDepth 100000 in
set_option maxHeartbeats 4000000 in
theorem walkE (C B E F S T now b had : Int) (w : World) :
    Calls Try.prog 3 #[.agg #[(.int .i64 C), (.int .i64 B), (.int .i64 E), (.int .i64 F), (.int .i64 S), (.int .i64 T)], .agg #[(.int .i64 now), (.int .i64 b)], (.int .i64 had)] w fun e w' => e = .returned (.bool true) ∧ St w w' [] := by
  have h1 := fun W => colour_any C B E F S T now b had W
  have h2 := fun W => jcolour_any C B E F S T now b had W
  have h3 := fun W => right_any C B E F S T W
  have h4 := fun W => jright_any C B E F S T W
  obtain ⟨⟨C', B', E', F', S', T'⟩, c, er⟩ := col ⟨C, B, E, F, S, T⟩ now b had
  generalize mright C B E F S T = ok at h3 h4
  simp only [colV, mV] at h1 h2
  refine calls_tr Try.func3 Try.ntmps3 rfl rfl (St.refl _) ?_
  refine tr_seq ?_
  refine tr_region ?_
  refine tl_step rfl (oj_box (fe_t rfl) (fun b1 => ?_))
  refine tl_step rfl (oj_box (fe_t rfl) (fun b2 => ?_))
  refine tl_step rfl (oj_val (y_assign fe_c) ?_)
  refine tl_nil ?_
  refine tx_then ?_
  refine tr_seq ?_
  refine tr_region ?_
  refine tl_step rfl (oj_val (y_ldbA 1 Try.isAgg23 Try.sizeOf23 (fe_t rfl) rfl rfl rfl) ?_)
  refine tl_step rfl (oj_val (y_ldbA 0 Try.isAgg25 Try.sizeOf25 (fe_t rfl) rfl rfl rfl) ?_)
  refine tl_step rfl (oj_val (y_move (fe_t rfl)) ?_)
  refine tl_step rfl (oj_callv Try.call15 fe_f (fel_cons (fe_t rfl) (fel_cons (fe_t rfl) (fel_cons (fe_t rfl) fel_nil))) (fun w' hS => of_bel (h1 w')) ?_)
  refine tl_step rfl (oj_val (y_move (fe_t rfl)) ?_)
  refine tl_step rfl (oj_val (y_extract (fe_t rfl) rfl) ?_)
  refine tl_step rfl (oj_val (y_extract (fe_t rfl) rfl) ?_)
  refine tl_step rfl (oj_val (y_extract (fe_t rfl) rfl) ?_)
  refine tl_step rfl (oj_alloc Try.zeroValue23 (fun b3 => ?_))
  refine tl_step rfl (oj_storeW 0 Try.sizeOf23 (fe_t rfl) (fe_t rfl) rfl rfl rfl rfl rfl (?_))
  refine tl_step rfl (oj_val (y_assign (fe_t rfl)) ?_)
  refine tl_step rfl (oj_val (y_assign (fe_t rfl)) ?_)
  refine tl_nil ?_
  refine tx_then ?_
  refine tr_seq ?_
  refine tr_region ?_
  refine tl_step rfl (oj_val (y_ldbA 2 Try.isAgg23 Try.sizeOf23 (fe_t rfl) rfl rfl rfl) ?_)
  refine tl_step rfl (oj_val (y_ldbA 1 Try.isAgg25 Try.sizeOf25 (fe_t rfl) rfl rfl rfl) ?_)
  refine tl_step rfl (oj_val (y_move (fe_t rfl)) ?_)
  refine tl_step rfl (oj_callv Try.call16 fe_f (fel_cons (fe_t rfl) (fel_cons (fe_t rfl) (fel_cons (fe_t rfl) fel_nil))) (fun w' hS => of_bel (h2 w')) ?_)
  refine tl_step rfl (oj_val (y_move (fe_t rfl)) ?_)
  refine tl_step rfl (oj_val (y_extract (fe_t rfl) rfl) ?_)
  refine tl_step rfl (oj_val (y_extract (fe_t rfl) rfl) ?_)
  refine tl_step rfl (oj_val (y_extract (fe_t rfl) rfl) ?_)
  refine tl_step rfl (oj_alloc Try.zeroValue23 (fun b4 => ?_))
  refine tl_step rfl (oj_storeW 0 Try.sizeOf23 (fe_t rfl) (fe_t rfl) rfl rfl rfl rfl rfl (?_))
  refine tl_step rfl (oj_val (y_assign (fe_t rfl)) ?_)
  refine tl_step rfl (oj_val (y_assign (fe_t rfl)) ?_)
  refine tl_nil ?_
  refine tx_then ?_
  refine tr_seq ?_
  refine tr_draw (sel _ [0, 1, 2, 3]) (fun w h => h.sel _ rfl (by decide)) rfl ?_
  refine ta_float (i := 0) rfl (by kernel_rfl) (wants_none rfl) (yq_of (y_ldbA 3 Try.isAgg23 Try.sizeOf23 (fe_t rfl) rfl rfl rfl)) ?_
  refine ta_float (i := 1) rfl (by kernel_rfl) (wants_none rfl) (yq_call Try.call17 fe_f (fel_cons (fe_t rfl) fel_nil) (fun w' hS => of_bel (h3 w'))) ?_
  refine ta_float (i := 2) rfl (by kernel_rfl) (wants_none rfl) (yq_of (y_ldbA 3 Try.isAgg23 Try.sizeOf23 (fe_t rfl) rfl rfl rfl)) ?_
  refine ta_float (i := 3) rfl (by kernel_rfl) (wants_none rfl) (yq_call Try.call18 fe_f (fel_cons (fe_t rfl) fel_nil) (fun w' hS => of_bel (h4 w'))) ?_
  refine ta_float (i := 4) rfl (by kernel_rfl) (wants_none rfl) (yq_of (y_eqb Try.underlying4 (fe_t rfl) (fe_t rfl))) ?_
  refine ta_float (i := 5) rfl (by kernel_rfl) (wants_none rfl) (yq_of (y_move (fe_t rfl))) ?_
  refine ta_float (i := 6) rfl (by kernel_rfl) (wants_t rfl rfl rfl) (yq_of (y_move (fe_t rfl))) ?_
  refine ta_float (i := 7) rfl (by kernel_rfl) (wants_t rfl rfl rfl) (yq_of (y_move (fe_t rfl))) ?_
  refine ta_float (i := 8) rfl (by kernel_rfl) (wants_t rfl rfl rfl) (yq_of (y_eq (fe_t rfl) (fe_t rfl))) ?_
  refine ta_float (i := 9) rfl (by kernel_rfl) (wants_none rfl) (yq_of (y_pickt (fe_t rfl) (fe_t rfl))) ?_
  refine ta_float (i := 10) rfl (by kernel_rfl) (wants_none rfl) (yq_of (y_move (fe_t rfl))) ?_
  refine ta_splitp (d := 39) rfl (fun hq1 => ?_) (fun hq2 => ?_)
  · try (exfalso; omega)
    all_goals
      refine ta_float (i := 11) rfl (by kernel_rfl) (wants_t rfl rfl rfl) (yq_of (y_move (fe_t rfl))) ?_
      refine ta_float (i := 12) rfl (by kernel_rfl) (wants_t rfl rfl rfl) (yq_of (y_move (fe_t rfl))) ?_
      refine ta_float (i := 13) rfl (by kernel_rfl) (wants_t rfl rfl rfl) (yq_of (y_eq (fe_t rfl) (fe_t rfl))) ?_
      refine ta_float (i := 14) rfl (by kernel_rfl) (wants_none rfl) (yq_of (y_pickt (fe_t rfl) (fe_t rfl))) ?_
      refine ta_float (i := 15) rfl (by kernel_rfl) (wants_none rfl) (yq_of (y_move (fe_t rfl))) ?_
      refine ta_splitp (d := 44) rfl (fun hq3 => ?_) (fun hq4 => ?_)
      · try (exfalso; omega)
        all_goals
          refine ta_float (i := 16) rfl (by kernel_rfl) (wants_t rfl rfl rfl) (yq_of (y_ldbA 1 Try.isAgg23 Try.sizeOf23 (fe_t rfl) rfl rfl rfl)) ?_
          refine ta_float (i := 17) rfl (by kernel_rfl) (wants_t rfl rfl rfl) (yq_of (y_ldbA 0 Try.isAgg23 Try.sizeOf23 (fe_t rfl) rfl rfl rfl)) ?_
          refine ta_float (i := 18) rfl (by kernel_rfl) (wants_t rfl rfl rfl) (yq_of (y_binop (fe_t rfl) (fe_t rfl) (fun w => eq_mtr _ _ _ _ _ _ w))) ?_
          refine ta_float (i := 19) rfl (by kernel_rfl) (wants_none rfl) (yq_of (y_pickt (fe_t rfl) (fe_t rfl))) ?_
          refine ta_float (i := 20) rfl (by kernel_rfl) (wants_none rfl) (yq_of (y_assign (fe_t rfl))) ?_
          refine ta_done (by kernel_rfl) ?_
          refine tx_then ?_
          refine tr_ret ?_
          refine tx_ret (res1 Try.results3 (rok_t rfl)) (fun w' hS => ?_)
          exact ⟨ret_bool (by first | rfl | (simp; done)), hS.pick [] _ rfl (by decide)⟩
      · try (exfalso; omega)
        all_goals
          refine ta_skip (i := 16) rfl (by kernel_rfl) (wants_f rfl rfl rfl rfl) ?_
          refine ta_skip (i := 17) rfl (by kernel_rfl) (wants_f rfl rfl rfl rfl) ?_
          refine ta_skip (i := 18) rfl (by kernel_rfl) (wants_f rfl rfl rfl rfl) ?_
          refine ta_float (i := 19) rfl (by kernel_rfl) (wants_none rfl) (yq_of (y_pickf (fe_t rfl) fe_c)) ?_
          refine ta_float (i := 20) rfl (by kernel_rfl) (wants_none rfl) (yq_of (y_assign (fe_t rfl))) ?_
          refine ta_done (by kernel_rfl) ?_
          refine tx_then ?_
          refine tr_ret ?_
          refine tx_ret (res1 Try.results3 (rok_t rfl)) (fun w' hS => ?_)
          exact ⟨ret_bool (by first | rfl | (simp; done)), hS.pick [] _ rfl (by decide)⟩
  · try (exfalso; omega)
    all_goals
      refine ta_skip (i := 11) rfl (by kernel_rfl) (wants_f rfl rfl rfl rfl) ?_
      refine ta_skip (i := 12) rfl (by kernel_rfl) (wants_f rfl rfl rfl rfl) ?_
      refine ta_skip (i := 13) rfl (by kernel_rfl) (wants_f rfl rfl rfl rfl) ?_
      refine ta_float (i := 14) rfl (by kernel_rfl) (wants_none rfl) (yq_of (y_pickf (fe_t rfl) fe_c)) ?_
      refine ta_float (i := 15) rfl (by kernel_rfl) (wants_none rfl) (yq_of (y_move (fe_t rfl))) ?_
      refine ta_skip (i := 16) rfl (by kernel_rfl) (wants_f rfl rfl rfl rfl) ?_
      refine ta_skip (i := 17) rfl (by kernel_rfl) (wants_f rfl rfl rfl rfl) ?_
      refine ta_skip (i := 18) rfl (by kernel_rfl) (wants_f rfl rfl rfl rfl) ?_
      refine ta_float (i := 19) rfl (by kernel_rfl) (wants_none rfl) (yq_of (y_pickf (fe_t rfl) fe_c)) ?_
      refine ta_float (i := 20) rfl (by kernel_rfl) (wants_none rfl) (yq_of (y_assign (fe_t rfl))) ?_
      refine ta_done (by kernel_rfl) ?_
      refine tx_then ?_
      refine tr_ret ?_
      refine tx_ret (res1 Try.results3 (rok_t rfl)) (fun w' hS => ?_)
      exact ⟨ret_bool (by first | rfl | (simp; done)), hS.pick [] _ rfl (by decide)⟩
theorem walk (C B E F S T now b had : Int) (w : World) : Calls Try.prog 3 #[.agg #[(.int .i64 C), (.int .i64 B), (.int .i64 E), (.int .i64 F), (.int .i64 S), (.int .i64 T)], .agg #[(.int .i64 now), (.int .i64 b)], (.int .i64 had)] w fun e w' => e = .returned (.bool true) ∧ Below w.heap.size w w' := to_bel (walkE C B E F S T now b had w)
end Go.Proofs.Ytdfjeoifeladfaa.MeterColours
