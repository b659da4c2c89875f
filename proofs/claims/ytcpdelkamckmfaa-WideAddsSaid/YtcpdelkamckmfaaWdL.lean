/- The law WideAdds in two cases. -/
import Derived.Test.YtcpdelkamckmfaaWdD
namespace Go.Proofs.Ytcpdelkamckmfaa.Frac
open Go.RowKit Go.Proofs.Ytcpdelkamckmfaa.E Go.Proofs.Ytcpdelkamckmfaa.Big

theorem eq_wide {x y : Operand} (a b : Int) (w : World) : (do eqGuard .eql 54 x y (.agg #[.int .u64 a, .int .u64 b]) (.agg #[.int .u64 a, .int .u64 b]); binOp .eql 54 (.agg #[.int .u64 a, .int .u64 b]) (.agg #[.int .u64 a, .int .u64 b]) : Sem Value).run Try.prog w = .ok (.bool true) w := by
  have e1 : ∀ x y, Op.equal 54 x y = Op.equalIn (9998 + 1 + 1) 54 x y := fun _ _ => rfl
  simp [eqGuard, binOp, e1, go_sem]
theorem eq_samei {P : Program} {N : Nat} {w0 : World} {F : Frm} {L : List Res} {d : Option Tmp} {x y : Operand} {ty t t' : TypeId} {pos : String} {af : Array Edge} {gd : Option (Nat × Bool)} {k : IntKind} {a : Int} (hx : FE N F x (.int k a)) (hy : FE N F y (.int k a)) : Yld P N w0 F L ⟨d, .binOp .eql t x y t', ty, pos, af, gd⟩ (.bool true) := by
  have := y_eq (P := P) (w0 := w0) (L := L) (d := d) (ty := ty) (pos := pos) (af := af) (gd := gd) (t := t) (t' := t') hx hy
  rwa [show decide (a = a) = true by simp] at this
theorem eq_sameb {P : Program} {N : Nat} {w0 : World} {F : Frm} {L : List Res} {d : Option Tmp} {x y : Operand} {ty t t' : TypeId} {pos : String} {af : Array Edge} {gd : Option (Nat × Bool)} {a : Bool} (hu : P.underlying t = some .bool) (hx : FE N F x (.bool a)) (hy : FE N F y (.bool a)) : Yld P N w0 F L ⟨d, .binOp .eql t x y t', ty, pos, af, gd⟩ (.bool true) := by
  have := y_eqb (w0 := w0) (L := L) (d := d) (ty := ty) (pos := pos) (af := af) (gd := gd) (t' := t') hu hx hy
  rwa [show (a == a) = true by simp] at this
theorem wsat_t {h l h' l' : Int} (ha : WB h l) (hb : WB h' l') (w : World) (hw : wo ((h * 18446744073709551616 + l) + (h' * 18446744073709551616 + l')) = true) : Calls Try.prog 45 #[.agg #[.int .u64 h, .int .u64 l], .agg #[.int .u64 h', .int .u64 l']] w fun e w' => e = .returned (.agg #[.int .u64 18446744073709551615, .int .u64 18446744073709551615]) ∧ St w w' [] := by
  have := wsatE ha hb w
  rwa [show ws ((h * 18446744073709551616 + l) + (h' * 18446744073709551616 + l')) = .agg #[.int .u64 18446744073709551615, .int .u64 18446744073709551615] by unfold ws; rw [hw]; rfl] at this
theorem wsat_f {h l h' l' : Int} (ha : WB h l) (hb : WB h' l') (w : World) (hw : wo ((h * 18446744073709551616 + l) + (h' * 18446744073709551616 + l')) = false) : Calls Try.prog 45 #[.agg #[.int .u64 h, .int .u64 l], .agg #[.int .u64 h', .int .u64 l']] w fun e w' => e = .returned (wr ((h * 18446744073709551616 + l) + (h' * 18446744073709551616 + l'))) ∧ St w w' [] := by
  have := wsatE ha hb w
  rwa [show ws ((h * 18446744073709551616 + l) + (h' * 18446744073709551616 + l')) = wr ((h * 18446744073709551616 + l) + (h' * 18446744073709551616 + l')) by unfold ws; rw [hw]; rfl] at this

set_option maxRecDepth 100000 in
set_option maxHeartbeats 4000000 in
theorem law_t {u v u' v' : Int} (ha : WB u v) (hb : WB u' v') (hw : wo ((u * 18446744073709551616 + v) + (u' * 18446744073709551616 + v')) = true) (w : World) :
    Calls Try.prog 5 #[.agg #[.int .u64 u, .int .u64 v], .agg #[.int .u64 u', .int .u64 v']] w fun e w' => e = .returned (.bool true) ∧ St w w' [] := by
  have ha2 := ha
  have hb2 := hb
  obtain ⟨a0, a1, a2, a3⟩ := ha2
  obtain ⟨c0, c1, c2, c3⟩ := hb2
  refine calls_tr Try.func5 Try.ntmps5 rfl rfl (St.refl _) ?_
  refine tr_seq ?_
  refine tr_region ?_
  refine tl_step rfl (oj_box (fe_t rfl) (fun b1 => ?_))
  refine tl_step rfl (oj_box (fe_t rfl) (fun b2 => ?_))
  refine tl_step rfl (oj_val (y_assign fe_c) ?_)
  refine tl_nil ?_
  refine tx_then ?_
  refine tr_seq ?_
  refine tr_add (r := bag [] [] []) bag_nil rfl ?_
  refine tb_draw 1 (sel _ [1, 2]) (fun w h => h.sel _ rfl (by decide)) rfl ?_
  refine tb_float (i := 0) rfl (by kernel_rfl) rfl (wants_none rfl) (yq_of (y_ldbA 1 Try.isAgg54 Try.sizeOf54 (fe_t rfl) rfl rfl rfl)) ?_
  refine tb_float (i := 2) rfl (by kernel_rfl) rfl (wants_none rfl) (yq_of (y_ldbA 0 Try.isAgg54 Try.sizeOf54 (fe_t rfl) rfl rfl rfl)) ?_
  refine tb_one2 (i := 1) rfl (by kernel_rfl) (by kernel_rfl) (wants_none rfl) (oj_call2 Try.call37 fe_f (fel_cons (fe_t rfl) fel_nil) (fun w' hS => lift 0 hS rfl (fun T hS => abigE hS ha)) (fun r1 hr1 => ⟨fun w h => h.pick [1, 2] _ rfl (by decide), ?_⟩))
  refine tb_one2 (i := 3) rfl (by kernel_rfl) (by kernel_rfl) (wants_none rfl) (oj_call2 Try.call37 fe_f (fel_cons (fe_t rfl) fel_nil) (fun w' hS => lift 0 hS rfl (fun T hS => abigE hS hb)) (fun r2 hr2 => ⟨fun w h => h.pick [1, 2] _ rfl (by decide), ?_⟩))
  refine tb_float (i := 4) rfl (by kernel_rfl) rfl (wants_none rfl) (yq_of (y_assign (fe_t rfl))) ?_
  refine tb_float (i := 5) rfl (by kernel_rfl) rfl (wants_none rfl) (yq_of (y_assign (fe_t rfl))) ?_
  refine tb_done (by kernel_rfl) ?_
  refine tx_then ?_
  refine tr_seq ?_
  refine tr_region ?_
  refine tl_step rfl (oj_val (y_ldbA 2 Try.isAgg54 Try.sizeOf54 (fe_t rfl) rfl rfl rfl) ?_)
  refine tl_step rfl (oj_val (y_ldbA 1 Try.isAgg54 Try.sizeOf54 (fe_t rfl) rfl rfl rfl) ?_)
  refine tl_step rfl (oj_callv Try.call38 fe_f (fel_cons (fe_t rfl) (fel_cons (fe_t rfl) fel_nil)) (fun w' hS => waddE ha hb w') ?_)
  refine tl_step rfl (oj_val (y_move (fe_t rfl)) ?_)
  refine tl_step rfl (oj_val (y_extract (fe_t rfl) rfl) ?_)
  refine tl_step rfl (oj_val (y_extract (fe_t rfl) rfl) ?_)
  refine tl_step rfl (oj_alloc Try.zeroValue54 (fun b3 => ?_))
  refine tl_step rfl (oj_storeW 0 Try.sizeOf54 (fe_t rfl) (fe_t rfl) rfl rfl rfl rfl rfl (?_))
  refine tl_step rfl (oj_val (y_assign (fe_t rfl)) ?_)
  refine tl_nil ?_
  refine tx_then ?_
  refine tr_seq ?_
  refine tr_region ?_
  refine tl_step rfl (oj_val (y_ldbA 3 Try.isAgg54 Try.sizeOf54 (fe_t rfl) rfl rfl rfl) ?_)
  refine tl_step rfl (oj_val (y_ldbA 2 Try.isAgg54 Try.sizeOf54 (fe_t rfl) rfl rfl rfl) ?_)
  refine tl_step rfl (oj_callv Try.call39 fe_f (fel_cons (fe_t rfl) (fel_cons (fe_t rfl) fel_nil)) (fun w' hS => wsubE ha hb w') ?_)
  refine tl_step rfl (oj_val (y_move (fe_t rfl)) ?_)
  refine tl_step rfl (oj_val (y_extract (fe_t rfl) rfl) ?_)
  refine tl_step rfl (oj_val (y_extract (fe_t rfl) rfl) ?_)
  refine tl_step rfl (oj_alloc Try.zeroValue54 (fun b4 => ?_))
  refine tl_step rfl (oj_storeW 0 Try.sizeOf54 (fe_t rfl) (fe_t rfl) rfl rfl rfl rfl rfl (?_))
  refine tl_step rfl (oj_val (y_assign (fe_t rfl)) ?_)
  refine tl_nil ?_
  refine tx_then ?_
  refine tr_seq ?_
  refine tr_region ?_
  refine tl_step rfl (oj_allocN 2 Try.zeroValue35 rfl (fun b_i3 H_i3 => ?_))
  refine tl_step rfl (oj_val (y_move (fe_t rfl)) ?_)
  refine tl_step rfl (oj_val (y_move (fe_t rfl)) ?_)
  refine tl_step rfl (oj_call2 Try.call41 fe_f (fel_cons (fe_t rfl) (fel_cons (fe_t rfl) (fel_cons (fe_t rfl) fel_nil))) (fun w' hS => lift1 (p := fun n_ => n_.is ((u * 18446744073709551616 + v) + (u' * 18446744073709551616 + v'))) 2 0 hS rfl rfl (fun T l' hm hS => addB hS (hm _ (pget_mem 2 rfl)) (hm _ (pget_mem 1 rfl)) hr1 hr2 (sm_of (by omega) (by omega)) (sm_of (by omega) (by omega)))) (fun r3 hr3 => ?_))
  refine tl_step rfl (oj_call2 Try.call40 fe_f (fel_cons (fe_t rfl) fel_nil) (fun w' hS => lift 2 hS rfl (fun T hS => awideE hS (pget_mem 0 rfl) hr3 (by omega) (by omega))) (fun r4 _ => ?_))
  refine tl_step rfl (oj_val (y_move (fe_t rfl)) ?_)
  refine tl_step rfl (oj_val (y_extract (fe_t rfl) rfl) ?_)
  refine tl_step rfl (oj_val (y_extract (fe_t rfl) rfl) ?_)
  refine tl_step rfl (oj_alloc Try.zeroValue54 (fun b5 => ?_))
  refine tl_step rfl (oj_storeW 0 Try.sizeOf54 (fe_t rfl) (fe_t rfl) rfl rfl rfl rfl rfl (?_))
  refine tl_step rfl (oj_val (y_assign (fe_t rfl)) ?_)
  refine tl_nil ?_
  refine tx_then ?_
  refine tr_seq ?_
  refine tr_region ?_
  refine tl_step rfl (oj_allocN 3 Try.zeroValue35 rfl (fun b_i4 H_i4 => ?_))
  refine tl_step rfl (oj_val (y_move (fe_t rfl)) ?_)
  refine tl_step rfl (oj_val (y_move (fe_t rfl)) ?_)
  refine tl_step rfl (oj_call2 Try.call42 fe_f (fel_cons (fe_t rfl) (fel_cons (fe_t rfl) (fel_cons (fe_t rfl) fel_nil))) (fun w' hS => lift1 (p := fun n_ => n_.is ((u * 18446744073709551616 + v) - (u' * 18446744073709551616 + v'))) 3 0 hS rfl rfl (fun T l' hm hS => subB hS (hm _ (pget_mem 3 rfl)) (hm _ (pget_mem 2 rfl)) hr1 hr2 (sm_of (by omega) (by omega)) (sm_of (by omega) (by omega)))) (fun r5 hr5 => ?_))
  refine tl_step rfl (oj_call2 Try.call40 fe_f (fel_cons (fe_t rfl) fel_nil) (fun w' hS => lift 3 hS rfl (fun T hS => awideE hS (pget_mem 0 rfl) hr5 (by omega) (by omega))) (fun r6 _ => ?_))
  refine tl_step rfl (oj_val (y_move (fe_t rfl)) ?_)
  refine tl_step rfl (oj_val (y_extract (fe_t rfl) rfl) ?_)
  refine tl_step rfl (oj_val (y_extract (fe_t rfl) rfl) ?_)
  refine tl_step rfl (oj_alloc Try.zeroValue54 (fun b6 => ?_))
  refine tl_step rfl (oj_storeW 0 Try.sizeOf54 (fe_t rfl) (fe_t rfl) rfl rfl rfl rfl rfl (?_))
  refine tl_step rfl (oj_val (y_assign (fe_t rfl)) ?_)
  refine tl_nil ?_
  refine tx_then ?_
  refine tr_seq ?_
  refine tr_region ?_
  refine tl_step rfl (oj_val (y_ldbA 1 Try.isAgg54 Try.sizeOf54 (fe_t rfl) rfl rfl rfl) ?_)
  refine tl_step rfl (oj_alloc Try.zeroValue54 (fun b7 => ?_))
  refine tl_step rfl (oj_storeW 0 Try.sizeOf54 (fe_t rfl) (fe_t rfl) rfl rfl rfl rfl rfl (?_))
  refine tl_nil ?_
  refine tx_then ?_
  refine tr_seq ?_
  refine tr_seq ?_
  refine tr_region ?_
  refine tl_step rfl (oj_val (y_move (fe_t rfl)) ?_)
  refine tl_nil ?_
  refine tx_then ?_
  refine tr_cond (fe_t rfl) (fun hq1 => ?_) (fun hq2 => ?_)
  · refine tr_region ?_
    refine tl_step rfl (oj_val ((fun {u0 u1} hx hb => y_build (is := [0, 1]) (vs := [u0, u1]) (cs := [u0, u1]) rfl hx hb) (fel_cons (fe_c (v := .int .u64 18446744073709551615)) (fel_cons (fe_c (v := .int .u64 18446744073709551615)) fel_nil)) (by kernel_rfl)) ?_)
    refine tl_step rfl (oj_storeW 0 Try.sizeOf54 (fe_t rfl) (fe_t rfl) rfl rfl rfl rfl rfl (?_))
    refine tl_nil ?_
    refine tx_then ?_
    refine tr_seq ?_
    refine tb_draw 99 (sel _ [0, 1, 2, 3, 4, 5, 6, 7]) (fun w h => h.sel _ rfl (by decide)) rfl ?_
    refine tb_float (i := 0) rfl (by kernel_rfl) rfl (wants_none rfl) (yq_of (y_ldbA 7 Try.isAgg54 Try.sizeOf54 (fe_t rfl) rfl rfl rfl)) ?_
    refine tb_float (i := 1) rfl (by kernel_rfl) rfl (wants_none rfl) (yq_of (y_ldbA 6 Try.isAgg54 Try.sizeOf54 (fe_t rfl) rfl rfl rfl)) ?_
    refine tb_float (i := 2) rfl (by kernel_rfl) rfl (wants_none rfl) (yq_call Try.call43 fe_f (fel_cons (fe_t rfl) (fel_cons (fe_t rfl) fel_nil)) (fun w' hS => wcmpE ha hb w')) ?_
    refine tb_float (i := 3) rfl (by kernel_rfl) rfl (wants_none rfl) (yq_of (y_move (fe_t rfl))) ?_
    refine tb_float (i := 4) rfl (by kernel_rfl) rfl (wants_none rfl) (yq_of (y_move (fe_t rfl))) ?_
    refine tb_float (i := 5) rfl (by kernel_rfl) rfl (wants_none rfl) (yq_call Try.call44 fe_f (fel_cons (fe_t rfl) (fel_cons (fe_t rfl) fel_nil)) (fun w' hS => of_drn (cmp_any _ _ _ _ _ _ _ (bag_int hS 5 rfl (pget_mem 3 rfl) hr1) (bag_int hS 5 rfl (pget_mem 2 rfl) hr2) (sm_of (by omega) (by omega)) (sm_of (by omega) (by omega))))) ?_
    refine tb_float (i := 6) rfl (by kernel_rfl) rfl (wants_none rfl) (yq_of (eq_samei (fe_t rfl) (fe_t rfl))) ?_
    refine tb_float (i := 7) rfl (by kernel_rfl) rfl (wants_none rfl) (yq_of (y_move (fe_t rfl))) ?_
    refine tb_float (i := 8) rfl (by kernel_rfl) rfl (wants_t rfl rfl rfl) (yq_of (y_ldbA 4 Try.isAgg54 Try.sizeOf54 (fe_t rfl) rfl rfl rfl)) ?_
    refine tb_float (i := 9) rfl (by kernel_rfl) rfl (wants_t rfl rfl rfl) (yq_of (y_ldbA 2 Try.isAgg54 Try.sizeOf54 (fe_t rfl) rfl rfl rfl)) ?_
    refine tb_float (i := 10) rfl (by kernel_rfl) rfl (wants_t rfl rfl rfl) (yq_of (y_binop (fe_t rfl) (fe_t rfl) (fun w => eq_wide _ _ w))) ?_
    refine tb_float (i := 11) rfl (by kernel_rfl) rfl (wants_none rfl) (yq_of (y_pickt (fe_t rfl) (fe_t rfl))) ?_
    refine tb_float (i := 12) rfl (by kernel_rfl) rfl (wants_none rfl) (yq_of (y_move (fe_t rfl))) ?_
    refine tb_float (i := 13) rfl (by kernel_rfl) rfl (wants_t rfl rfl rfl) (yq_of (y_move (fe_t rfl))) ?_
    refine tb_float (i := 14) rfl (by kernel_rfl) rfl (wants_t rfl rfl rfl) (yq_of (y_move (fe_t rfl))) ?_
    refine tb_float (i := 15) rfl (by kernel_rfl) rfl (wants_t rfl rfl rfl) (yq_of (eq_sameb Try.underlying4 (fe_t rfl) (fe_t rfl))) ?_
    refine tb_float (i := 16) rfl (by kernel_rfl) rfl (wants_none rfl) (yq_of (y_pickt (fe_t rfl) (fe_t rfl))) ?_
    refine tb_float (i := 17) rfl (by kernel_rfl) rfl (wants_none rfl) (yq_of (y_move (fe_t rfl))) ?_
    refine tb_float (i := 18) rfl (by kernel_rfl) rfl (wants_t rfl rfl rfl) (yq_of (y_ldbA 3 Try.isAgg54 Try.sizeOf54 (fe_t rfl) rfl rfl rfl)) ?_
    refine tb_float (i := 19) rfl (by kernel_rfl) rfl (wants_t rfl rfl rfl) (yq_of (y_ldbA 1 Try.isAgg54 Try.sizeOf54 (fe_t rfl) rfl rfl rfl)) ?_
    refine tb_float (i := 20) rfl (by kernel_rfl) rfl (wants_t rfl rfl rfl) (yq_of (y_binop (fe_t rfl) (fe_t rfl) (fun w => eq_wide _ _ w))) ?_
    refine tb_float (i := 21) rfl (by kernel_rfl) rfl (wants_none rfl) (yq_of (y_pickt (fe_t rfl) (fe_t rfl))) ?_
    refine tb_float (i := 22) rfl (by kernel_rfl) rfl (wants_none rfl) (yq_of (y_move (fe_t rfl))) ?_
    refine tb_float (i := 23) rfl (by kernel_rfl) rfl (wants_t rfl rfl rfl) (yq_of (y_move (fe_t rfl))) ?_
    refine tb_float (i := 24) rfl (by kernel_rfl) rfl (wants_t rfl rfl rfl) (yq_of (y_move (fe_t rfl))) ?_
    refine tb_float (i := 25) rfl (by kernel_rfl) rfl (wants_t rfl rfl rfl) (yq_of (eq_sameb Try.underlying4 (fe_t rfl) (fe_t rfl))) ?_
    refine tb_float (i := 26) rfl (by kernel_rfl) rfl (wants_none rfl) (yq_of (y_pickt (fe_t rfl) (fe_t rfl))) ?_
    refine tb_float (i := 27) rfl (by kernel_rfl) rfl (wants_none rfl) (yq_of (y_move (fe_t rfl))) ?_
    refine tb_float (i := 28) rfl (by kernel_rfl) rfl (wants_t rfl rfl rfl) (yq_of (y_ldbA 7 Try.isAgg54 Try.sizeOf54 (fe_t rfl) rfl rfl rfl)) ?_
    refine tb_float (i := 29) rfl (by kernel_rfl) rfl (wants_t rfl rfl rfl) (yq_of (y_ldbA 6 Try.isAgg54 Try.sizeOf54 (fe_t rfl) rfl rfl rfl)) ?_
    refine tb_float (i := 30) rfl (by kernel_rfl) rfl (wants_t rfl rfl rfl) (yq_call Try.call45 fe_f (fel_cons (fe_t rfl) (fel_cons (fe_t rfl) fel_nil)) (fun w' hS => wsat_t ha hb w' hw)) ?_
    refine tb_float (i := 31) rfl (by kernel_rfl) rfl (wants_t rfl rfl rfl) (yq_of (y_ldbA 0 Try.isAgg54 Try.sizeOf54 (fe_t rfl) rfl rfl rfl)) ?_
    refine tb_float (i := 32) rfl (by kernel_rfl) rfl (wants_t rfl rfl rfl) (yq_of (y_binop (fe_t rfl) (fe_t rfl) (fun w => eq_wide _ _ w))) ?_
    refine tb_float (i := 33) rfl (by kernel_rfl) rfl (wants_none rfl) (yq_of (y_pickt (fe_t rfl) (fe_t rfl))) ?_
    refine tb_float (i := 34) rfl (by kernel_rfl) rfl (wants_none rfl) (yq_of (y_assign (fe_t rfl))) ?_
    refine tb_done (by kernel_rfl) ?_
    refine tx_then ?_
    refine tr_ret ?_
    refine tx_ret (res1 Try.results5 (rok_t rfl)) (fun w' hS => ?_)
    exact ⟨ret_bool (by first | rfl | (simp; done)), hS.pick [] _ rfl (by decide)⟩
  · rw [hw] at hq2; cases hq2

set_option maxRecDepth 100000 in
set_option maxHeartbeats 4000000 in
theorem law_f {u v u' v' : Int} (ha : WB u v) (hb : WB u' v') (hw : wo ((u * 18446744073709551616 + v) + (u' * 18446744073709551616 + v')) = false) (w : World) :
    Calls Try.prog 5 #[.agg #[.int .u64 u, .int .u64 v], .agg #[.int .u64 u', .int .u64 v']] w fun e w' => e = .returned (.bool true) ∧ St w w' [] := by
  have ha2 := ha
  have hb2 := hb
  obtain ⟨a0, a1, a2, a3⟩ := ha2
  obtain ⟨c0, c1, c2, c3⟩ := hb2
  refine calls_tr Try.func5 Try.ntmps5 rfl rfl (St.refl _) ?_
  refine tr_seq ?_
  refine tr_region ?_
  refine tl_step rfl (oj_box (fe_t rfl) (fun b1 => ?_))
  refine tl_step rfl (oj_box (fe_t rfl) (fun b2 => ?_))
  refine tl_step rfl (oj_val (y_assign fe_c) ?_)
  refine tl_nil ?_
  refine tx_then ?_
  refine tr_seq ?_
  refine tr_add (r := bag [] [] []) bag_nil rfl ?_
  refine tb_draw 1 (sel _ [1, 2]) (fun w h => h.sel _ rfl (by decide)) rfl ?_
  refine tb_float (i := 0) rfl (by kernel_rfl) rfl (wants_none rfl) (yq_of (y_ldbA 1 Try.isAgg54 Try.sizeOf54 (fe_t rfl) rfl rfl rfl)) ?_
  refine tb_float (i := 2) rfl (by kernel_rfl) rfl (wants_none rfl) (yq_of (y_ldbA 0 Try.isAgg54 Try.sizeOf54 (fe_t rfl) rfl rfl rfl)) ?_
  refine tb_one2 (i := 1) rfl (by kernel_rfl) (by kernel_rfl) (wants_none rfl) (oj_call2 Try.call37 fe_f (fel_cons (fe_t rfl) fel_nil) (fun w' hS => lift 0 hS rfl (fun T hS => abigE hS ha)) (fun r1 hr1 => ⟨fun w h => h.pick [1, 2] _ rfl (by decide), ?_⟩))
  refine tb_one2 (i := 3) rfl (by kernel_rfl) (by kernel_rfl) (wants_none rfl) (oj_call2 Try.call37 fe_f (fel_cons (fe_t rfl) fel_nil) (fun w' hS => lift 0 hS rfl (fun T hS => abigE hS hb)) (fun r2 hr2 => ⟨fun w h => h.pick [1, 2] _ rfl (by decide), ?_⟩))
  refine tb_float (i := 4) rfl (by kernel_rfl) rfl (wants_none rfl) (yq_of (y_assign (fe_t rfl))) ?_
  refine tb_float (i := 5) rfl (by kernel_rfl) rfl (wants_none rfl) (yq_of (y_assign (fe_t rfl))) ?_
  refine tb_done (by kernel_rfl) ?_
  refine tx_then ?_
  refine tr_seq ?_
  refine tr_region ?_
  refine tl_step rfl (oj_val (y_ldbA 2 Try.isAgg54 Try.sizeOf54 (fe_t rfl) rfl rfl rfl) ?_)
  refine tl_step rfl (oj_val (y_ldbA 1 Try.isAgg54 Try.sizeOf54 (fe_t rfl) rfl rfl rfl) ?_)
  refine tl_step rfl (oj_callv Try.call38 fe_f (fel_cons (fe_t rfl) (fel_cons (fe_t rfl) fel_nil)) (fun w' hS => waddE ha hb w') ?_)
  refine tl_step rfl (oj_val (y_move (fe_t rfl)) ?_)
  refine tl_step rfl (oj_val (y_extract (fe_t rfl) rfl) ?_)
  refine tl_step rfl (oj_val (y_extract (fe_t rfl) rfl) ?_)
  refine tl_step rfl (oj_alloc Try.zeroValue54 (fun b3 => ?_))
  refine tl_step rfl (oj_storeW 0 Try.sizeOf54 (fe_t rfl) (fe_t rfl) rfl rfl rfl rfl rfl (?_))
  refine tl_step rfl (oj_val (y_assign (fe_t rfl)) ?_)
  refine tl_nil ?_
  refine tx_then ?_
  refine tr_seq ?_
  refine tr_region ?_
  refine tl_step rfl (oj_val (y_ldbA 3 Try.isAgg54 Try.sizeOf54 (fe_t rfl) rfl rfl rfl) ?_)
  refine tl_step rfl (oj_val (y_ldbA 2 Try.isAgg54 Try.sizeOf54 (fe_t rfl) rfl rfl rfl) ?_)
  refine tl_step rfl (oj_callv Try.call39 fe_f (fel_cons (fe_t rfl) (fel_cons (fe_t rfl) fel_nil)) (fun w' hS => wsubE ha hb w') ?_)
  refine tl_step rfl (oj_val (y_move (fe_t rfl)) ?_)
  refine tl_step rfl (oj_val (y_extract (fe_t rfl) rfl) ?_)
  refine tl_step rfl (oj_val (y_extract (fe_t rfl) rfl) ?_)
  refine tl_step rfl (oj_alloc Try.zeroValue54 (fun b4 => ?_))
  refine tl_step rfl (oj_storeW 0 Try.sizeOf54 (fe_t rfl) (fe_t rfl) rfl rfl rfl rfl rfl (?_))
  refine tl_step rfl (oj_val (y_assign (fe_t rfl)) ?_)
  refine tl_nil ?_
  refine tx_then ?_
  refine tr_seq ?_
  refine tr_region ?_
  refine tl_step rfl (oj_allocN 2 Try.zeroValue35 rfl (fun b_i3 H_i3 => ?_))
  refine tl_step rfl (oj_val (y_move (fe_t rfl)) ?_)
  refine tl_step rfl (oj_val (y_move (fe_t rfl)) ?_)
  refine tl_step rfl (oj_call2 Try.call41 fe_f (fel_cons (fe_t rfl) (fel_cons (fe_t rfl) (fel_cons (fe_t rfl) fel_nil))) (fun w' hS => lift1 (p := fun n_ => n_.is ((u * 18446744073709551616 + v) + (u' * 18446744073709551616 + v'))) 2 0 hS rfl rfl (fun T l' hm hS => addB hS (hm _ (pget_mem 2 rfl)) (hm _ (pget_mem 1 rfl)) hr1 hr2 (sm_of (by omega) (by omega)) (sm_of (by omega) (by omega)))) (fun r3 hr3 => ?_))
  refine tl_step rfl (oj_call2 Try.call40 fe_f (fel_cons (fe_t rfl) fel_nil) (fun w' hS => lift 2 hS rfl (fun T hS => awideE hS (pget_mem 0 rfl) hr3 (by omega) (by omega))) (fun r4 _ => ?_))
  refine tl_step rfl (oj_val (y_move (fe_t rfl)) ?_)
  refine tl_step rfl (oj_val (y_extract (fe_t rfl) rfl) ?_)
  refine tl_step rfl (oj_val (y_extract (fe_t rfl) rfl) ?_)
  refine tl_step rfl (oj_alloc Try.zeroValue54 (fun b5 => ?_))
  refine tl_step rfl (oj_storeW 0 Try.sizeOf54 (fe_t rfl) (fe_t rfl) rfl rfl rfl rfl rfl (?_))
  refine tl_step rfl (oj_val (y_assign (fe_t rfl)) ?_)
  refine tl_nil ?_
  refine tx_then ?_
  refine tr_seq ?_
  refine tr_region ?_
  refine tl_step rfl (oj_allocN 3 Try.zeroValue35 rfl (fun b_i4 H_i4 => ?_))
  refine tl_step rfl (oj_val (y_move (fe_t rfl)) ?_)
  refine tl_step rfl (oj_val (y_move (fe_t rfl)) ?_)
  refine tl_step rfl (oj_call2 Try.call42 fe_f (fel_cons (fe_t rfl) (fel_cons (fe_t rfl) (fel_cons (fe_t rfl) fel_nil))) (fun w' hS => lift1 (p := fun n_ => n_.is ((u * 18446744073709551616 + v) - (u' * 18446744073709551616 + v'))) 3 0 hS rfl rfl (fun T l' hm hS => subB hS (hm _ (pget_mem 3 rfl)) (hm _ (pget_mem 2 rfl)) hr1 hr2 (sm_of (by omega) (by omega)) (sm_of (by omega) (by omega)))) (fun r5 hr5 => ?_))
  refine tl_step rfl (oj_call2 Try.call40 fe_f (fel_cons (fe_t rfl) fel_nil) (fun w' hS => lift 3 hS rfl (fun T hS => awideE hS (pget_mem 0 rfl) hr5 (by omega) (by omega))) (fun r6 _ => ?_))
  refine tl_step rfl (oj_val (y_move (fe_t rfl)) ?_)
  refine tl_step rfl (oj_val (y_extract (fe_t rfl) rfl) ?_)
  refine tl_step rfl (oj_val (y_extract (fe_t rfl) rfl) ?_)
  refine tl_step rfl (oj_alloc Try.zeroValue54 (fun b6 => ?_))
  refine tl_step rfl (oj_storeW 0 Try.sizeOf54 (fe_t rfl) (fe_t rfl) rfl rfl rfl rfl rfl (?_))
  refine tl_step rfl (oj_val (y_assign (fe_t rfl)) ?_)
  refine tl_nil ?_
  refine tx_then ?_
  refine tr_seq ?_
  refine tr_region ?_
  refine tl_step rfl (oj_val (y_ldbA 1 Try.isAgg54 Try.sizeOf54 (fe_t rfl) rfl rfl rfl) ?_)
  refine tl_step rfl (oj_alloc Try.zeroValue54 (fun b7 => ?_))
  refine tl_step rfl (oj_storeW 0 Try.sizeOf54 (fe_t rfl) (fe_t rfl) rfl rfl rfl rfl rfl (?_))
  refine tl_nil ?_
  refine tx_then ?_
  refine tr_seq ?_
  refine tr_seq ?_
  refine tr_region ?_
  refine tl_step rfl (oj_val (y_move (fe_t rfl)) ?_)
  refine tl_nil ?_
  refine tx_then ?_
  refine tr_cond (fe_t rfl) (fun hq1 => ?_) (fun hq2 => ?_)
  · rw [hw] at hq1; cases hq1
  · refine tr_skip ?_
    refine tx_then ?_
    refine tr_seq ?_
    refine tb_draw 99 (sel _ [0, 1, 2, 3, 4, 5, 6, 7]) (fun w h => h.sel _ rfl (by decide)) rfl ?_
    refine tb_float (i := 0) rfl (by kernel_rfl) rfl (wants_none rfl) (yq_of (y_ldbA 7 Try.isAgg54 Try.sizeOf54 (fe_t rfl) rfl rfl rfl)) ?_
    refine tb_float (i := 1) rfl (by kernel_rfl) rfl (wants_none rfl) (yq_of (y_ldbA 6 Try.isAgg54 Try.sizeOf54 (fe_t rfl) rfl rfl rfl)) ?_
    refine tb_float (i := 2) rfl (by kernel_rfl) rfl (wants_none rfl) (yq_call Try.call43 fe_f (fel_cons (fe_t rfl) (fel_cons (fe_t rfl) fel_nil)) (fun w' hS => wcmpE ha hb w')) ?_
    refine tb_float (i := 3) rfl (by kernel_rfl) rfl (wants_none rfl) (yq_of (y_move (fe_t rfl))) ?_
    refine tb_float (i := 4) rfl (by kernel_rfl) rfl (wants_none rfl) (yq_of (y_move (fe_t rfl))) ?_
    refine tb_float (i := 5) rfl (by kernel_rfl) rfl (wants_none rfl) (yq_call Try.call44 fe_f (fel_cons (fe_t rfl) (fel_cons (fe_t rfl) fel_nil)) (fun w' hS => of_drn (cmp_any _ _ _ _ _ _ _ (bag_int hS 5 rfl (pget_mem 3 rfl) hr1) (bag_int hS 5 rfl (pget_mem 2 rfl) hr2) (sm_of (by omega) (by omega)) (sm_of (by omega) (by omega))))) ?_
    refine tb_float (i := 6) rfl (by kernel_rfl) rfl (wants_none rfl) (yq_of (eq_samei (fe_t rfl) (fe_t rfl))) ?_
    refine tb_float (i := 7) rfl (by kernel_rfl) rfl (wants_none rfl) (yq_of (y_move (fe_t rfl))) ?_
    refine tb_float (i := 8) rfl (by kernel_rfl) rfl (wants_t rfl rfl rfl) (yq_of (y_ldbA 4 Try.isAgg54 Try.sizeOf54 (fe_t rfl) rfl rfl rfl)) ?_
    refine tb_float (i := 9) rfl (by kernel_rfl) rfl (wants_t rfl rfl rfl) (yq_of (y_ldbA 2 Try.isAgg54 Try.sizeOf54 (fe_t rfl) rfl rfl rfl)) ?_
    refine tb_float (i := 10) rfl (by kernel_rfl) rfl (wants_t rfl rfl rfl) (yq_of (y_binop (fe_t rfl) (fe_t rfl) (fun w => eq_wide _ _ w))) ?_
    refine tb_float (i := 11) rfl (by kernel_rfl) rfl (wants_none rfl) (yq_of (y_pickt (fe_t rfl) (fe_t rfl))) ?_
    refine tb_float (i := 12) rfl (by kernel_rfl) rfl (wants_none rfl) (yq_of (y_move (fe_t rfl))) ?_
    refine tb_float (i := 13) rfl (by kernel_rfl) rfl (wants_t rfl rfl rfl) (yq_of (y_move (fe_t rfl))) ?_
    refine tb_float (i := 14) rfl (by kernel_rfl) rfl (wants_t rfl rfl rfl) (yq_of (y_move (fe_t rfl))) ?_
    refine tb_float (i := 15) rfl (by kernel_rfl) rfl (wants_t rfl rfl rfl) (yq_of (eq_sameb Try.underlying4 (fe_t rfl) (fe_t rfl))) ?_
    refine tb_float (i := 16) rfl (by kernel_rfl) rfl (wants_none rfl) (yq_of (y_pickt (fe_t rfl) (fe_t rfl))) ?_
    refine tb_float (i := 17) rfl (by kernel_rfl) rfl (wants_none rfl) (yq_of (y_move (fe_t rfl))) ?_
    refine tb_float (i := 18) rfl (by kernel_rfl) rfl (wants_t rfl rfl rfl) (yq_of (y_ldbA 3 Try.isAgg54 Try.sizeOf54 (fe_t rfl) rfl rfl rfl)) ?_
    refine tb_float (i := 19) rfl (by kernel_rfl) rfl (wants_t rfl rfl rfl) (yq_of (y_ldbA 1 Try.isAgg54 Try.sizeOf54 (fe_t rfl) rfl rfl rfl)) ?_
    refine tb_float (i := 20) rfl (by kernel_rfl) rfl (wants_t rfl rfl rfl) (yq_of (y_binop (fe_t rfl) (fe_t rfl) (fun w => eq_wide _ _ w))) ?_
    refine tb_float (i := 21) rfl (by kernel_rfl) rfl (wants_none rfl) (yq_of (y_pickt (fe_t rfl) (fe_t rfl))) ?_
    refine tb_float (i := 22) rfl (by kernel_rfl) rfl (wants_none rfl) (yq_of (y_move (fe_t rfl))) ?_
    refine tb_float (i := 23) rfl (by kernel_rfl) rfl (wants_t rfl rfl rfl) (yq_of (y_move (fe_t rfl))) ?_
    refine tb_float (i := 24) rfl (by kernel_rfl) rfl (wants_t rfl rfl rfl) (yq_of (y_move (fe_t rfl))) ?_
    refine tb_float (i := 25) rfl (by kernel_rfl) rfl (wants_t rfl rfl rfl) (yq_of (eq_sameb Try.underlying4 (fe_t rfl) (fe_t rfl))) ?_
    refine tb_float (i := 26) rfl (by kernel_rfl) rfl (wants_none rfl) (yq_of (y_pickt (fe_t rfl) (fe_t rfl))) ?_
    refine tb_float (i := 27) rfl (by kernel_rfl) rfl (wants_none rfl) (yq_of (y_move (fe_t rfl))) ?_
    refine tb_float (i := 28) rfl (by kernel_rfl) rfl (wants_t rfl rfl rfl) (yq_of (y_ldbA 7 Try.isAgg54 Try.sizeOf54 (fe_t rfl) rfl rfl rfl)) ?_
    refine tb_float (i := 29) rfl (by kernel_rfl) rfl (wants_t rfl rfl rfl) (yq_of (y_ldbA 6 Try.isAgg54 Try.sizeOf54 (fe_t rfl) rfl rfl rfl)) ?_
    refine tb_float (i := 30) rfl (by kernel_rfl) rfl (wants_t rfl rfl rfl) (yq_call Try.call45 fe_f (fel_cons (fe_t rfl) (fel_cons (fe_t rfl) fel_nil)) (fun w' hS => wsat_f ha hb w' hw)) ?_
    refine tb_float (i := 31) rfl (by kernel_rfl) rfl (wants_t rfl rfl rfl) (yq_of (y_ldbA 0 Try.isAgg54 Try.sizeOf54 (fe_t rfl) rfl rfl rfl)) ?_
    refine tb_float (i := 32) rfl (by kernel_rfl) rfl (wants_t rfl rfl rfl) (yq_of (y_binop (fe_t rfl) (fe_t rfl) (fun w => eq_wide _ _ w))) ?_
    refine tb_float (i := 33) rfl (by kernel_rfl) rfl (wants_none rfl) (yq_of (y_pickt (fe_t rfl) (fe_t rfl))) ?_
    refine tb_float (i := 34) rfl (by kernel_rfl) rfl (wants_none rfl) (yq_of (y_assign (fe_t rfl))) ?_
    refine tb_done (by kernel_rfl) ?_
    refine tx_then ?_
    refine tr_ret ?_
    refine tx_ret (res1 Try.results5 (rok_t rfl)) (fun w' hS => ?_)
    exact ⟨ret_bool (by first | rfl | (simp; done)), hS.pick [] _ rfl (by decide)⟩

end Go.Proofs.Ytcpdelkamckmfaa.Frac
