/- The law WideMuls in three cases. -/
import Derived.Test.YtcpdelkamckmfaaWmE
namespace Go.Proofs.Ytcpdelkamckmfaa.Frac
open Go.RowKit Go.Proofs.Ytcpdelkamckmfaa.E Go.Proofs.Ytcpdelkamckmfaa.Big

theorem ne_wide {x y : Operand} (a b : Int) (w : World) : (do eqGuard .neq 54 x y (.agg #[.int .u64 a, .int .u64 b]) (.agg #[.int .u64 a, .int .u64 b]); binOp .neq 54 (.agg #[.int .u64 a, .int .u64 b]) (.agg #[.int .u64 a, .int .u64 b]) : Sem Value).run Try.prog w = .ok (.bool false) w := by
  have e1 : ∀ x y, Op.equal 54 x y = Op.equalIn (9998 + 1 + 1) 54 x y := fun _ _ => rfl
  simp [eqGuard, binOp, e1, go_sem]
theorem eq_wide' {x y : Operand} (a b : Int) (w : World) : (do eqGuard .eql 54 x y (.agg #[.int .u64 a, .int .u64 b]) (.agg #[.int .u64 a, .int .u64 b]); binOp .eql 54 (.agg #[.int .u64 a, .int .u64 b]) (.agg #[.int .u64 a, .int .u64 b]) : Sem Value).run Try.prog w = .ok (.bool true) w := by
  have e1 : ∀ x y, Op.equal 54 x y = Op.equalIn (9998 + 1 + 1) 54 x y := fun _ _ => rfl
  simp [eqGuard, binOp, e1, go_sem]
theorem ne_wr {x y : Operand} {z z' : Int} (h : z = z') (w : World) : (do eqGuard .neq 54 x y (wr z) (wr z'); binOp .neq 54 (wr z) (wr z') : Sem Value).run Try.prog w = .ok (.bool false) w := by
  subst h
  exact ne_wide _ _ w
section
variable {P : Program} {N : Nat} {w0 : World} {F : Frm} {L : List Res} {d : Option Tmp} {x y : Operand} {ty t t' : TypeId} {pos : String} {af : Array Edge} {gd : Option (Nat × Bool)} {k : IntKind} {a b : Int}
theorem eq_eqi (h : a = b) (hx : FE N F x (.int k a)) (hy : FE N F y (.int k b)) : Yld P N w0 F L ⟨d, .binOp .eql t x y t', ty, pos, af, gd⟩ (.bool true) := by
  have := y_eq (P := P) (w0 := w0) (L := L) (d := d) (ty := ty) (pos := pos) (af := af) (gd := gd) (t := t) (t' := t') hx hy
  rwa [show decide (a = b) = true by simp [h]] at this
theorem ne_eqi (h : a = b) (hx : FE N F x (.int k a)) (hy : FE N F y (.int k b)) : Yld P N w0 F L ⟨d, .binOp .neq t x y t', ty, pos, af, gd⟩ (.bool false) := by
  have := y_neq (P := P) (w0 := w0) (L := L) (d := d) (ty := ty) (pos := pos) (af := af) (gd := gd) (t := t) (t' := t') hx hy
  rwa [show decide (¬ a = b) = false by simp [h]] at this
end
theorem wb_wr {z : Int} (h0 : 0 ≤ z) : WB (z / 18446744073709551616 % 18446744073709551616) (z % 18446744073709551616) := ⟨by omega, by omega, by omega, by omega⟩
theorem lcm_eq {x y : Int} (hx : 0 < x) (hy : 0 < y) (hb : x * y < 340282366920938463463374607431768211456) : x / (Int.gcd x y : Int) * y = (x * y / 18446744073709551616 % 18446744073709551616 * 18446744073709551616 + x * y % 18446744073709551616) / (Int.gcd x y : Int) := by
  have h0 : 0 ≤ x * y := Int.mul_nonneg (by omega) (by omega)
  rw [show x * y / 18446744073709551616 % 18446744073709551616 * 18446744073709551616 + x * y % 18446744073709551616 = x * y by omega]
  obtain ⟨k, hk⟩ := Int.gcd_dvd_left x y
  have hg : 0 < (Int.gcd x y : Int) := by have := Int.gcd_pos_of_ne_zero_left y (show x ≠ 0 by omega); omega
  generalize (Int.gcd x y : Int) = g at *
  subst hk
  rw [Int.mul_ediv_cancel_left _ (by omega), Int.mul_assoc, Int.mul_ediv_cancel_left _ (by omega)]

set_option maxRecDepth 100000 in
set_option maxHeartbeats 8000000 in
theorem mlaw_x0 {u v x y : Int} (ha : WB u v) (hx : 0 ≤ x ∧ x ≤ 18446744073709551615) (hy : 0 ≤ y ∧ y ≤ 18446744073709551615) (hz : x = 0) (w : World) :
    Calls Try.prog 6 #[.agg #[.int .u64 u, .int .u64 v], .int .u64 x, .int .u64 y] w fun e w' => e = .returned (.bool true) ∧ St w w' [] := by
  have hxy := wprod hx hy
  have ha2 := ha
  obtain ⟨a0, a1, a2, a3⟩ := ha2
  have hG : (Int.gcd x y : Int) = ((max x y).natAbs : Int) := by rw [hz, Int.gcd_zero_left]; omega
  have hgl : (Int.gcd x y : Int) ≤ 18446744073709551615 := by
    by_cases h : x = 0
    · rw [h, Int.gcd_zero_left]; omega
    · have h1 := Int.gcd_le_left y (show 0 < x by omega); omega
  refine calls_tr Try.func6 Try.ntmps6 rfl rfl (St.refl _) ?_
  refine tr_seq ?_
  refine tr_region ?_
  refine tl_step rfl (oj_box (fe_t rfl) (fun b1 => ?_))
  refine tl_step rfl (oj_val (y_assign fe_c) ?_)
  refine tl_nil ?_
  refine tx_then ?_
  refine tr_seq ?_
  refine tr_add (r := bag [] [] []) bag_nil rfl ?_
  refine tr_region ?_
  refine tl_step rfl (oj_allocN 0 Try.zeroValue35 rfl (fun b_i1 H_i1 => ?_))
  refine tl_step rfl (oj_val (y_move (fe_t rfl)) ?_)
  refine tl_step rfl (oj_call2 Try.call30 fe_f (fel_cons (fe_t rfl) fel_nil) (fun w' hS => lift 0 hS rfl (fun T hS => aofW hS x (by omega) (by omega))) (fun r1 hr1 => ?_))
  refine tl_step rfl (oj_val (y_move (fe_t rfl)) ?_)
  refine tl_step rfl (oj_call2 Try.call30 fe_f (fel_cons (fe_t rfl) fel_nil) (fun w' hS => lift 0 hS rfl (fun T hS => aofW hS y (by omega) (by omega))) (fun r2 hr2 => ?_))
  refine tl_step rfl (oj_call2 Try.call46 fe_f (fel_cons (fe_t rfl) (fel_cons (fe_t rfl) (fel_cons (fe_t rfl) fel_nil))) (fun w' hS => lift1 (p := fun n_ => n_.is (x * y)) 0 2 hS rfl rfl (fun T l' hm hS => mulB hS (hm _ (pget_mem 1 rfl)) (hm _ (pget_mem 0 rfl)) hr1 hr2 (Nat.le_trans (nm_sm hr1 (sm_of (by omega) (by omega))) (by decide)) (Nat.le_trans (nm_sm hr2 (sm_of (by omega) (by omega))) (by decide)))) (fun r3 hr3 => ?_))
  refine tl_step rfl (oj_call2 Try.call40 fe_f (fel_cons (fe_t rfl) fel_nil) (fun w' hS => lift 0 hS rfl (fun T hS => awideE hS (pget_mem 2 rfl) hr3 (by omega) (by omega))) (fun r4 _ => ?_))
  refine tl_step rfl (oj_val (y_move (fe_t rfl)) ?_)
  refine tl_step rfl (oj_val (y_extract (fe_t rfl) rfl) ?_)
  refine tl_step rfl (oj_val (y_extract (fe_t rfl) rfl) ?_)
  refine tl_step rfl (oj_alloc Try.zeroValue54 (fun b2 => ?_))
  refine tl_step rfl (oj_storeW 0 Try.sizeOf54 (fe_t rfl) (fe_t rfl) rfl rfl rfl rfl rfl (?_))
  refine tl_step rfl (oj_val (y_assign (fe_t rfl)) ?_)
  refine tl_nil ?_
  refine tx_then ?_
  refine tr_seq ?_
  refine tr_region ?_
  refine tl_step rfl (oj_allocN 1 Try.zeroValue35 rfl (fun b_i4 H_i4 => ?_))
  refine tl_step rfl (oj_val (y_move (fe_t rfl)) ?_)
  refine tl_step rfl (oj_call2 Try.call30 fe_f (fel_cons (fe_t rfl) fel_nil) (fun w' hS => lift 1 hS rfl (fun T hS => aofW hS x (by omega) (by omega))) (fun r5 hr5 => ?_))
  refine tl_step rfl (oj_val (y_move (fe_t rfl)) ?_)
  refine tl_step rfl (oj_call2 Try.call30 fe_f (fel_cons (fe_t rfl) fel_nil) (fun w' hS => lift 1 hS rfl (fun T hS => aofW hS y (by omega) (by omega))) (fun r6 hr6 => ?_))
  refine tl_step rfl (oj_call2 Try.call47 fe_f (fel_cons (fe_t rfl) (fel_cons fe_c (fel_cons fe_c (fel_cons (fe_t rfl) (fel_cons (fe_t rfl) fel_nil))))) (fun w' hS => lift1 (p := fun n_ => n_.is ((Int.gcd (x) (y) : Int))) 1 2 hS rfl rfl (fun T l' hm hS => gcdS hS (hm _ (pget_mem 1 rfl)) (hm _ (pget_mem 0 rfl)) hr5 hr6 (by omega) (by omega) (by omega) (by omega))) (fun r7 hr7 => ?_))
  refine tl_step rfl (oj_val (y_assign (fe_t rfl)) ?_)
  refine tl_nil ?_
  refine tx_then ?_
  refine tr_seq ?_
  refine tr_seq ?_
  refine tr_region ?_
  refine tl_step rfl (oj_val (y_move (fe_t rfl)) ?_)
  refine tl_step rfl (oj_val (y_eq (fe_t rfl) fe_c) ?_)
  refine tl_step rfl (oj_val (y_move (fe_t rfl)) ?_)
  refine tl_splitp (d := 36) rfl (fun hq1 => ?_) (fun hq2 => ?_)
  · refine tl_skip rfl rfl rfl rfl ?_
    refine tl_skip rfl rfl rfl rfl ?_
    refine tl_step rfl (oj_val (y_pickt (fe_t rfl) fe_c) ?_)
    refine tl_nil ?_
    refine tx_then ?_
    refine tr_condt (fe_t rfl) ?_
    refine tr_region ?_
    refine tl_step rfl (oj_val (y_move (fe_t rfl)) ?_)
    refine tl_step rfl (oj_val (y_move (fe_t rfl)) ?_)
    refine tl_step rfl (oj_val (y_max (fe_t rfl) (fe_t rfl)) ?_)
    refine tl_step rfl (oj_call2 Try.call30 fe_f (fel_cons (fe_t rfl) fel_nil) (fun w' hS => lift 1 hS rfl (fun T hS => aofW hS (max x y) (by omega) (by omega))) (fun r8 hr8 => ?_))
    refine tl_step rfl (oj_val (y_assign (fe_t rfl)) ?_)
    refine tl_nil ?_
    refine tx_then ?_
    refine tr_seq ?_
    refine tr_region ?_
    refine tl_step rfl (oj_alloc Try.zeroValue54 (fun b3 => ?_))
    refine tl_nil ?_
    refine tx_then ?_
    refine tr_seq ?_
    refine tr_seq ?_
    refine tr_region ?_
    refine tl_step rfl (oj_val (y_move (fe_t rfl)) ?_)
    refine tl_step rfl (oj_val (y_gtr (fe_t rfl) fe_c) ?_)
    refine tl_step rfl (oj_val (y_move (fe_t rfl)) ?_)
    refine tl_splitp (d := 46) rfl (fun hq3 => ?_) (fun hq4 => ?_)
    · exfalso; omega
    · refine tl_skip rfl rfl rfl rfl ?_
      refine tl_skip rfl rfl rfl rfl ?_
      refine tl_step rfl (oj_val (y_pickf (fe_t rfl) fe_c) ?_)
      refine tl_nil ?_
      refine tx_then ?_
      refine tr_condf (fe_t rfl) ?_
      refine tr_skip ?_
      refine tx_then ?_
      refine tr_seq ?_
      refine tr_seq ?_
      refine tb_draw 99 (sel _ [0, 1, 2, 3]) (fun w h => h.sel _ rfl (by decide)) rfl ?_
      refine tb_float (i := 0) rfl (by kernel_rfl) rfl (wants_none rfl) (yq_of (y_move (fe_t rfl))) ?_
      refine tb_float (i := 1) rfl (by kernel_rfl) rfl (wants_none rfl) (yq_of (y_move (fe_t rfl))) ?_
      refine tb_float (i := 2) rfl (by kernel_rfl) rfl (wants_none rfl) (yq_call Try.call48 fe_f (fel_cons (fe_t rfl) (fel_cons (fe_t rfl) fel_nil)) (fun w' hS => wmulE hx hy w')) ?_
      refine tb_float (i := 3) rfl (by kernel_rfl) rfl (wants_none rfl) (yq_of (y_ldbA 1 Try.isAgg54 Try.sizeOf54 (fe_t rfl) rfl rfl rfl)) ?_
      refine tb_float (i := 4) rfl (by kernel_rfl) rfl (wants_none rfl) (yq_of (y_binop (fe_t rfl) (fe_t rfl) (fun w => ne_wide _ _ w))) ?_
      refine tb_float (i := 5) rfl (by kernel_rfl) rfl (wants_none rfl) (yq_of (y_move (fe_t rfl))) ?_
      refine tb_float (i := 6) rfl (by kernel_rfl) rfl (wants_t rfl rfl rfl) (yq_of (y_move (fe_t rfl))) ?_
      refine tb_float (i := 7) rfl (by kernel_rfl) rfl (wants_t rfl rfl rfl) (yq_of (y_move (fe_t rfl))) ?_
      refine tb_float (i := 8) rfl (by kernel_rfl) rfl (wants_t rfl rfl rfl) (yq_call Try.call49 fe_f (fel_cons (fe_t rfl) (fel_cons (fe_t rfl) fel_nil)) (fun w' hS => wgcdE hx hy w')) ?_
      refine tb_float (i := 9) rfl (by kernel_rfl) rfl (wants_t rfl rfl rfl) (yq_of (y_move (fe_t rfl))) ?_
      refine tb_float (i := 10) rfl (by kernel_rfl) rfl (wants_t rfl rfl rfl) (yq_call Try.call31 fe_f (fel_cons (fe_t rfl) fel_nil) (fun w' hS => of_eq (uint_any _ _ _ _ (bag_int hS 2 rfl (pget_mem 0 rfl) hr8) (by omega) (by omega)))) ?_
      refine tb_float (i := 11) rfl (by kernel_rfl) rfl (wants_t rfl rfl rfl) (yq_of (ne_eqi hG (fe_t rfl) (fe_t rfl))) ?_
      refine tb_float (i := 12) rfl (by kernel_rfl) rfl (wants_none rfl) (yq_of (y_pickf (fe_t rfl) (fe_t rfl))) ?_
      refine tb_float (i := 13) rfl (by kernel_rfl) rfl (wants_none rfl) (yq_of (y_move (fe_t rfl))) ?_
      refine tb_float (i := 14) rfl (by kernel_rfl) rfl (wants_t rfl rfl rfl) (yq_of (y_move (fe_t rfl))) ?_
      refine tb_float (i := 15) rfl (by kernel_rfl) rfl (wants_t rfl rfl rfl) (yq_of (y_move (fe_t rfl))) ?_
      refine tb_float (i := 16) rfl (by kernel_rfl) rfl (wants_t rfl rfl rfl) (yq_call Try.call50 fe_f (fel_cons (fe_t rfl) (fel_cons (fe_t rfl) fel_nil)) (fun w' hS => wlcm_z hx hy w' (.inl hz))) ?_
      refine tb_float (i := 17) rfl (by kernel_rfl) rfl (wants_t rfl rfl rfl) (yq_of (y_ldbA 0 Try.isAgg54 Try.sizeOf54 (fe_t rfl) rfl rfl rfl)) ?_
      refine tb_float (i := 18) rfl (by kernel_rfl) rfl (wants_t rfl rfl rfl) (yq_of (y_binop (fe_t rfl) (fe_t rfl) (fun w => ne_wide _ _ w))) ?_
      refine tb_float (i := 19) rfl (by kernel_rfl) rfl (wants_none rfl) (yq_of (y_pickf (fe_t rfl) (fe_t rfl))) ?_
      refine tb_done (by kernel_rfl) ?_
      refine tx_then ?_
      refine tr_condf (fe_t rfl) ?_
      refine tr_skip ?_
      refine tx_then ?_
      refine tr_seq ?_
      refine tr_region ?_
      refine tl_step rfl (oj_val (y_ldbA 3 Try.isAgg54 Try.sizeOf54 (fe_t rfl) rfl rfl rfl) ?_)
      refine tl_step rfl (oj_val (y_move (fe_t rfl)) ?_)
      refine tl_step rfl (oj_callv Try.call51 fe_f (fel_cons (fe_t rfl) (fel_cons (fe_t rfl) fel_nil)) (fun w' hS => wdiv_z ha hz hx.2 w') ?_)
      refine tl_step rfl (oj_val (y_move (fe_t rfl)) ?_)
      refine tl_step rfl (oj_val (y_extract (fe_t rfl) rfl) ?_)
      refine tl_step rfl (oj_val (y_extract (fe_t rfl) rfl) ?_)
      refine tl_step rfl (oj_val (y_extract (fe_t rfl) rfl) ?_)
      refine tl_step rfl (oj_alloc Try.zeroValue54 (fun b4 => ?_))
      refine tl_step rfl (oj_storeW 0 Try.sizeOf54 (fe_t rfl) (fe_t rfl) rfl rfl rfl rfl rfl (?_))
      refine tl_step rfl (oj_val (y_assign (fe_t rfl)) ?_)
      refine tl_step rfl (oj_val (y_assign (fe_t rfl)) ?_)
      refine tl_nil ?_
      refine tx_then ?_
      refine tr_seq ?_
      refine tr_seq ?_
      refine tr_region ?_
      refine tl_step rfl (oj_val (y_move (fe_t rfl)) ?_)
      refine tl_step rfl (oj_val (y_eq (fe_t rfl) fe_c) ?_)
      refine tl_nil ?_
      refine tx_then ?_
      refine tr_condp (fe_t rfl) (fun hq5 => ?_) (fun hq6 => ?_)
      · refine tr_seq ?_
        refine tr_region ?_
        refine tl_step rfl (oj_val (y_move (fe_t rfl)) ?_)
        refine tl_step rfl (oj_val (eq_eqi rfl (fe_t rfl) fe_c) ?_)
        refine tl_step rfl (oj_val (y_move (fe_t rfl)) ?_)
        refine tl_want rfl rfl rfl (oj_val (y_ldbA 0 Try.isAgg54 Try.sizeOf54 (fe_t rfl) rfl rfl rfl) ?_)
        refine tl_want rfl rfl rfl (oj_val (y_build (is := []) (vs := []) (cs := [.int .u64 0, .int .u64 0]) rfl fel_nil (by kernel_rfl)) ?_)
        refine tl_want rfl rfl rfl (oj_val (y_binop (fe_t rfl) (fe_t rfl) (fun w => eq_wide' _ _ w)) ?_)
        refine tl_step rfl (oj_val (y_pickt (fe_t rfl) (fe_t rfl)) ?_)
        refine tl_step rfl (oj_val (y_move (fe_t rfl)) ?_)
        refine tl_want rfl rfl rfl (oj_val (y_move (fe_t rfl)) ?_)
        refine tl_want rfl rfl rfl (oj_val (eq_eqi rfl (fe_t rfl) fe_c) ?_)
        refine tl_step rfl (oj_val (y_pickt (fe_t rfl) (fe_t rfl)) ?_)
        refine tl_step rfl (oj_val (y_assign (fe_t rfl)) ?_)
        refine tl_nil ?_
        refine tx_then ?_
        refine tr_ret ?_
        refine tx_then_ret ?_
        refine tx_ret (res1 Try.results6 (rok_t rfl)) (fun w' hS => ?_)
        exact ⟨ret_bool (by first | rfl | (simp; done)), hS.pick [] _ rfl (by decide)⟩
      · exfalso; omega
  · exfalso; omega

set_option maxRecDepth 100000 in
set_option maxHeartbeats 8000000 in
theorem mlaw_y0 {u v x y : Int} (ha : WB u v) (hx : 0 ≤ x ∧ x ≤ 18446744073709551615) (hy : 0 ≤ y ∧ y ≤ 18446744073709551615) (hz : 0 < x ∧ y = 0) (w : World) :
    Calls Try.prog 6 #[.agg #[.int .u64 u, .int .u64 v], .int .u64 x, .int .u64 y] w fun e w' => e = .returned (.bool true) ∧ St w w' [] := by
  have hxy := wprod hx hy
  have ha2 := ha
  obtain ⟨a0, a1, a2, a3⟩ := ha2
  have hG : (Int.gcd x y : Int) = ((max x y).natAbs : Int) := by rw [hz.2, Int.gcd_zero_right]; omega
  have hgl : (Int.gcd x y : Int) ≤ 18446744073709551615 := by
    by_cases h : x = 0
    · rw [h, Int.gcd_zero_left]; omega
    · have h1 := Int.gcd_le_left y (show 0 < x by omega); omega
  have hv0 : 0 ≤ (u * 18446744073709551616 + v) / x := Int.ediv_nonneg (by omega) (by omega)
  have hv1 : (u * 18446744073709551616 + v) / x ≤ u * 18446744073709551616 + v := Int.ediv_le_self _ (by omega)
  have hv2 := Int.emod_nonneg (u * 18446744073709551616 + v) (show x ≠ 0 by omega)
  have hv3 := Int.emod_lt_of_pos (u * 18446744073709551616 + v) (show 0 < x by omega)
  refine calls_tr Try.func6 Try.ntmps6 rfl rfl (St.refl _) ?_
  refine tr_seq ?_
  refine tr_region ?_
  refine tl_step rfl (oj_box (fe_t rfl) (fun b1 => ?_))
  refine tl_step rfl (oj_val (y_assign fe_c) ?_)
  refine tl_nil ?_
  refine tx_then ?_
  refine tr_seq ?_
  refine tr_add (r := bag [] [] []) bag_nil rfl ?_
  refine tr_region ?_
  refine tl_step rfl (oj_allocN 0 Try.zeroValue35 rfl (fun b_i1 H_i1 => ?_))
  refine tl_step rfl (oj_val (y_move (fe_t rfl)) ?_)
  refine tl_step rfl (oj_call2 Try.call30 fe_f (fel_cons (fe_t rfl) fel_nil) (fun w' hS => lift 0 hS rfl (fun T hS => aofW hS x (by omega) (by omega))) (fun r1 hr1 => ?_))
  refine tl_step rfl (oj_val (y_move (fe_t rfl)) ?_)
  refine tl_step rfl (oj_call2 Try.call30 fe_f (fel_cons (fe_t rfl) fel_nil) (fun w' hS => lift 0 hS rfl (fun T hS => aofW hS y (by omega) (by omega))) (fun r2 hr2 => ?_))
  refine tl_step rfl (oj_call2 Try.call46 fe_f (fel_cons (fe_t rfl) (fel_cons (fe_t rfl) (fel_cons (fe_t rfl) fel_nil))) (fun w' hS => lift1 (p := fun n_ => n_.is (x * y)) 0 2 hS rfl rfl (fun T l' hm hS => mulB hS (hm _ (pget_mem 1 rfl)) (hm _ (pget_mem 0 rfl)) hr1 hr2 (Nat.le_trans (nm_sm hr1 (sm_of (by omega) (by omega))) (by decide)) (Nat.le_trans (nm_sm hr2 (sm_of (by omega) (by omega))) (by decide)))) (fun r3 hr3 => ?_))
  refine tl_step rfl (oj_call2 Try.call40 fe_f (fel_cons (fe_t rfl) fel_nil) (fun w' hS => lift 0 hS rfl (fun T hS => awideE hS (pget_mem 2 rfl) hr3 (by omega) (by omega))) (fun r4 _ => ?_))
  refine tl_step rfl (oj_val (y_move (fe_t rfl)) ?_)
  refine tl_step rfl (oj_val (y_extract (fe_t rfl) rfl) ?_)
  refine tl_step rfl (oj_val (y_extract (fe_t rfl) rfl) ?_)
  refine tl_step rfl (oj_alloc Try.zeroValue54 (fun b2 => ?_))
  refine tl_step rfl (oj_storeW 0 Try.sizeOf54 (fe_t rfl) (fe_t rfl) rfl rfl rfl rfl rfl (?_))
  refine tl_step rfl (oj_val (y_assign (fe_t rfl)) ?_)
  refine tl_nil ?_
  refine tx_then ?_
  refine tr_seq ?_
  refine tr_region ?_
  refine tl_step rfl (oj_allocN 1 Try.zeroValue35 rfl (fun b_i4 H_i4 => ?_))
  refine tl_step rfl (oj_val (y_move (fe_t rfl)) ?_)
  refine tl_step rfl (oj_call2 Try.call30 fe_f (fel_cons (fe_t rfl) fel_nil) (fun w' hS => lift 1 hS rfl (fun T hS => aofW hS x (by omega) (by omega))) (fun r5 hr5 => ?_))
  refine tl_step rfl (oj_val (y_move (fe_t rfl)) ?_)
  refine tl_step rfl (oj_call2 Try.call30 fe_f (fel_cons (fe_t rfl) fel_nil) (fun w' hS => lift 1 hS rfl (fun T hS => aofW hS y (by omega) (by omega))) (fun r6 hr6 => ?_))
  refine tl_step rfl (oj_call2 Try.call47 fe_f (fel_cons (fe_t rfl) (fel_cons fe_c (fel_cons fe_c (fel_cons (fe_t rfl) (fel_cons (fe_t rfl) fel_nil))))) (fun w' hS => lift1 (p := fun n_ => n_.is ((Int.gcd (x) (y) : Int))) 1 2 hS rfl rfl (fun T l' hm hS => gcdS hS (hm _ (pget_mem 1 rfl)) (hm _ (pget_mem 0 rfl)) hr5 hr6 (by omega) (by omega) (by omega) (by omega))) (fun r7 hr7 => ?_))
  refine tl_step rfl (oj_val (y_assign (fe_t rfl)) ?_)
  refine tl_nil ?_
  refine tx_then ?_
  refine tr_seq ?_
  refine tr_seq ?_
  refine tr_region ?_
  refine tl_step rfl (oj_val (y_move (fe_t rfl)) ?_)
  refine tl_step rfl (oj_val (y_eq (fe_t rfl) fe_c) ?_)
  refine tl_step rfl (oj_val (y_move (fe_t rfl)) ?_)
  refine tl_splitp (d := 36) rfl (fun hq1 => ?_) (fun hq2 => ?_)
  · exfalso; omega
  · refine tl_want rfl rfl rfl (oj_val (y_move (fe_t rfl)) ?_)
    refine tl_want rfl rfl rfl (oj_val (y_eq (fe_t rfl) fe_c) ?_)
    refine tl_step rfl (oj_val (y_pickf (fe_t rfl) (fe_t rfl)) ?_)
    refine tl_nil ?_
    refine tx_then ?_
    refine tr_condp (fe_t rfl) (fun hq3 => ?_) (fun hq4 => ?_)
    · refine tr_region ?_
      refine tl_step rfl (oj_val (y_move (fe_t rfl)) ?_)
      refine tl_step rfl (oj_val (y_move (fe_t rfl)) ?_)
      refine tl_step rfl (oj_val (y_max (fe_t rfl) (fe_t rfl)) ?_)
      refine tl_step rfl (oj_call2 Try.call30 fe_f (fel_cons (fe_t rfl) fel_nil) (fun w' hS => lift 1 hS rfl (fun T hS => aofW hS (max x y) (by omega) (by omega))) (fun r8 hr8 => ?_))
      refine tl_step rfl (oj_val (y_assign (fe_t rfl)) ?_)
      refine tl_nil ?_
      refine tx_then ?_
      refine tr_seq ?_
      refine tr_region ?_
      refine tl_step rfl (oj_alloc Try.zeroValue54 (fun b3 => ?_))
      refine tl_nil ?_
      refine tx_then ?_
      refine tr_seq ?_
      refine tr_seq ?_
      refine tr_region ?_
      refine tl_step rfl (oj_val (y_move (fe_t rfl)) ?_)
      refine tl_step rfl (oj_val (y_gtr (fe_t rfl) fe_c) ?_)
      refine tl_step rfl (oj_val (y_move (fe_t rfl)) ?_)
      refine tl_splitp (d := 46) rfl (fun hq5 => ?_) (fun hq6 => ?_)
      · refine tl_want rfl rfl rfl (oj_val (y_move (fe_t rfl)) ?_)
        refine tl_want rfl rfl rfl (oj_val (y_gtr (fe_t rfl) fe_c) ?_)
        refine tl_step rfl (oj_val (y_pickt (fe_t rfl) (fe_t rfl)) ?_)
        refine tl_nil ?_
        refine tx_then ?_
        refine tr_condp (fe_t rfl) (fun hq7 => ?_) (fun hq8 => ?_)
        · exfalso; omega
        · refine tr_skip ?_
          refine tx_then ?_
          refine tr_seq ?_
          refine tr_seq ?_
          refine tb_draw 99 (sel _ [0, 1, 2, 3]) (fun w h => h.sel _ rfl (by decide)) rfl ?_
          refine tb_float (i := 0) rfl (by kernel_rfl) rfl (wants_none rfl) (yq_of (y_move (fe_t rfl))) ?_
          refine tb_float (i := 1) rfl (by kernel_rfl) rfl (wants_none rfl) (yq_of (y_move (fe_t rfl))) ?_
          refine tb_float (i := 2) rfl (by kernel_rfl) rfl (wants_none rfl) (yq_call Try.call48 fe_f (fel_cons (fe_t rfl) (fel_cons (fe_t rfl) fel_nil)) (fun w' hS => wmulE hx hy w')) ?_
          refine tb_float (i := 3) rfl (by kernel_rfl) rfl (wants_none rfl) (yq_of (y_ldbA 1 Try.isAgg54 Try.sizeOf54 (fe_t rfl) rfl rfl rfl)) ?_
          refine tb_float (i := 4) rfl (by kernel_rfl) rfl (wants_none rfl) (yq_of (y_binop (fe_t rfl) (fe_t rfl) (fun w => ne_wide _ _ w))) ?_
          refine tb_float (i := 5) rfl (by kernel_rfl) rfl (wants_none rfl) (yq_of (y_move (fe_t rfl))) ?_
          refine tb_float (i := 6) rfl (by kernel_rfl) rfl (wants_t rfl rfl rfl) (yq_of (y_move (fe_t rfl))) ?_
          refine tb_float (i := 7) rfl (by kernel_rfl) rfl (wants_t rfl rfl rfl) (yq_of (y_move (fe_t rfl))) ?_
          refine tb_float (i := 8) rfl (by kernel_rfl) rfl (wants_t rfl rfl rfl) (yq_call Try.call49 fe_f (fel_cons (fe_t rfl) (fel_cons (fe_t rfl) fel_nil)) (fun w' hS => wgcdE hx hy w')) ?_
          refine tb_float (i := 9) rfl (by kernel_rfl) rfl (wants_t rfl rfl rfl) (yq_of (y_move (fe_t rfl))) ?_
          refine tb_float (i := 10) rfl (by kernel_rfl) rfl (wants_t rfl rfl rfl) (yq_call Try.call31 fe_f (fel_cons (fe_t rfl) fel_nil) (fun w' hS => of_eq (uint_any _ _ _ _ (bag_int hS 2 rfl (pget_mem 0 rfl) hr8) (by omega) (by omega)))) ?_
          refine tb_float (i := 11) rfl (by kernel_rfl) rfl (wants_t rfl rfl rfl) (yq_of (ne_eqi hG (fe_t rfl) (fe_t rfl))) ?_
          refine tb_float (i := 12) rfl (by kernel_rfl) rfl (wants_none rfl) (yq_of (y_pickf (fe_t rfl) (fe_t rfl))) ?_
          refine tb_float (i := 13) rfl (by kernel_rfl) rfl (wants_none rfl) (yq_of (y_move (fe_t rfl))) ?_
          refine tb_float (i := 14) rfl (by kernel_rfl) rfl (wants_t rfl rfl rfl) (yq_of (y_move (fe_t rfl))) ?_
          refine tb_float (i := 15) rfl (by kernel_rfl) rfl (wants_t rfl rfl rfl) (yq_of (y_move (fe_t rfl))) ?_
          refine tb_float (i := 16) rfl (by kernel_rfl) rfl (wants_t rfl rfl rfl) (yq_call Try.call50 fe_f (fel_cons (fe_t rfl) (fel_cons (fe_t rfl) fel_nil)) (fun w' hS => wlcm_z hx hy w' (.inr hz.2))) ?_
          refine tb_float (i := 17) rfl (by kernel_rfl) rfl (wants_t rfl rfl rfl) (yq_of (y_ldbA 0 Try.isAgg54 Try.sizeOf54 (fe_t rfl) rfl rfl rfl)) ?_
          refine tb_float (i := 18) rfl (by kernel_rfl) rfl (wants_t rfl rfl rfl) (yq_of (y_binop (fe_t rfl) (fe_t rfl) (fun w => ne_wide _ _ w))) ?_
          refine tb_float (i := 19) rfl (by kernel_rfl) rfl (wants_none rfl) (yq_of (y_pickf (fe_t rfl) (fe_t rfl))) ?_
          refine tb_done (by kernel_rfl) ?_
          refine tx_then ?_
          refine tr_condf (fe_t rfl) ?_
          refine tr_skip ?_
          refine tx_then ?_
          refine tr_seq ?_
          refine tr_region ?_
          refine tl_step rfl (oj_val (y_ldbA 3 Try.isAgg54 Try.sizeOf54 (fe_t rfl) rfl rfl rfl) ?_)
          refine tl_step rfl (oj_val (y_move (fe_t rfl)) ?_)
          refine tl_step rfl (oj_callv Try.call51 fe_f (fel_cons (fe_t rfl) (fel_cons (fe_t rfl) fel_nil)) (fun w' hS => wdiv_p ha hz.1 hx.2 w') ?_)
          refine tl_step rfl (oj_val (y_move (fe_t rfl)) ?_)
          refine tl_step rfl (oj_val (y_extract (fe_t rfl) rfl) ?_)
          refine tl_step rfl (oj_val (y_extract (fe_t rfl) rfl) ?_)
          refine tl_step rfl (oj_val (y_extract (fe_t rfl) rfl) ?_)
          refine tl_step rfl (oj_alloc Try.zeroValue54 (fun b4 => ?_))
          refine tl_step rfl (oj_storeW 0 Try.sizeOf54 (fe_t rfl) (fe_t rfl) rfl rfl rfl rfl rfl (?_))
          refine tl_step rfl (oj_val (y_assign (fe_t rfl)) ?_)
          refine tl_step rfl (oj_val (y_assign (fe_t rfl)) ?_)
          refine tl_nil ?_
          refine tx_then ?_
          refine tr_seq ?_
          refine tr_seq ?_
          refine tr_region ?_
          refine tl_step rfl (oj_val (y_move (fe_t rfl)) ?_)
          refine tl_step rfl (oj_val (y_eq (fe_t rfl) fe_c) ?_)
          refine tl_nil ?_
          refine tx_then ?_
          refine tr_condp (fe_t rfl) (fun hq9 => ?_) (fun hq10 => ?_)
          · exfalso; omega
          · refine tr_skip ?_
            refine tx_then ?_
            refine tr_seq ?_
            refine tr_region ?_
            refine tl_step rfl (oj_allocN 3 Try.zeroValue35 rfl (fun b_i8 H_i8 => ?_))
            refine tl_step rfl (oj_val (y_ldbA 4 Try.isAgg54 Try.sizeOf54 (fe_t rfl) rfl rfl rfl) ?_)
            refine tl_step rfl (oj_call2 Try.call37 fe_f (fel_cons (fe_t rfl) fel_nil) (fun w' hS => lift 3 hS rfl (fun T hS => abigE hS ha)) (fun r10 hr10 => ?_))
            refine tl_step rfl (oj_val (y_move (fe_t rfl)) ?_)
            refine tl_step rfl (oj_call2 Try.call30 fe_f (fel_cons (fe_t rfl) fel_nil) (fun w' hS => lift 3 hS rfl (fun T hS => aofW hS x (by omega) (by omega))) (fun r11 hr11 => ?_))
            refine tl_step rfl (oj_allocN 3 Try.zeroValue35 rfl (fun b_i11 H_i11 => ?_))
            refine tl_step rfl (oj_call2 Try.call52 fe_f (fel_cons (fe_t rfl) (fel_cons (fe_t rfl) (fel_cons (fe_t rfl) (fel_cons (fe_t rfl) fel_nil)))) (fun w' hS => lift2 (p := fun m_ n_ => m_.is ((u * 18446744073709551616 + v) / x) ∧ n_.is ((u * 18446744073709551616 + v) % x)) 3 3 0 hS rfl rfl rfl rfl (fun T l' hm hS => divmodB hS (hm _ (pget_mem 2 rfl)) (hm _ (pget_mem 1 rfl)) hr10 hr11 (by omega) (sm_of (by omega) (by omega)) (sm_of (by omega) (by omega)))) (fun r12 hr12 => ?_))
            refine tl_step rfl (oj_val (y_move (fe_t rfl)) ?_)
            refine tl_step rfl (oj_val (y_extract (fe_t rfl) rfl) ?_)
            refine tl_step rfl (oj_val (y_extract (fe_t rfl) rfl) ?_)
            refine tl_step rfl (oj_val (y_assign (fe_t rfl)) ?_)
            refine tl_step rfl (oj_val (y_assign (fe_t rfl)) ?_)
            refine tl_nil ?_
            refine tx_then ?_
            refine tr_seq ?_
            refine tr_region ?_
            refine tl_step rfl (oj_val (y_move (fe_t rfl)) ?_)
            refine tl_step rfl (oj_call2 Try.call40 fe_f (fel_cons (fe_t rfl) fel_nil) (fun w' hS => lift 3 hS rfl (fun T hS => awideE hS (pget_mem 3 rfl) hr12.1 (by omega) (by omega))) (fun r13 _ => ?_))
            refine tl_step rfl (oj_val (y_move (fe_t rfl)) ?_)
            refine tl_step rfl (oj_val (y_extract (fe_t rfl) rfl) ?_)
            refine tl_step rfl (oj_val (y_extract (fe_t rfl) rfl) ?_)
            refine tl_step rfl (oj_alloc Try.zeroValue54 (fun b5 => ?_))
            refine tl_step rfl (oj_storeW 0 Try.sizeOf54 (fe_t rfl) (fe_t rfl) rfl rfl rfl rfl rfl (?_))
            refine tl_step rfl (oj_val (y_assign (fe_t rfl)) ?_)
            refine tl_nil ?_
            refine tx_then ?_
            refine tr_seq ?_
            refine tr_region ?_
            refine tl_step rfl (oj_val (y_move (fe_t rfl)) ?_)
            refine tl_step rfl (oj_val (eq_eqi rfl (fe_t rfl) fe_c) ?_)
            refine tl_step rfl (oj_val (y_move (fe_t rfl)) ?_)
            refine tl_want rfl rfl rfl (oj_val (y_ldbA 1 Try.isAgg54 Try.sizeOf54 (fe_t rfl) rfl rfl rfl) ?_)
            refine tl_want rfl rfl rfl (oj_val (y_ldbA 0 Try.isAgg54 Try.sizeOf54 (fe_t rfl) rfl rfl rfl) ?_)
            refine tl_want rfl rfl rfl (oj_val (y_binop (fe_t rfl) (fe_t rfl) (fun w => eq_wide' _ _ w)) ?_)
            refine tl_step rfl (oj_val (y_pickt (fe_t rfl) (fe_t rfl)) ?_)
            refine tl_step rfl (oj_val (y_move (fe_t rfl)) ?_)
            refine tl_want rfl rfl rfl (oj_val (y_move (fe_t rfl)) ?_)
            refine tl_want rfl rfl rfl (oj_val (y_move (fe_t rfl)) ?_)
            refine tl_want rfl rfl rfl (oj_callv Try.call31 fe_f (fel_cons (fe_t rfl) fel_nil) (fun w' hS => of_eq (uint_any _ _ _ _ (bag_int hS 4 rfl (pget_mem 0 rfl) hr12.2) (by omega) (by omega))) ?_)
            refine tl_want rfl rfl rfl (oj_val (eq_eqi (by omega) (fe_t rfl) (fe_t rfl)) ?_)
            refine tl_step rfl (oj_val (y_pickt (fe_t rfl) (fe_t rfl)) ?_)
            refine tl_step rfl (oj_val (y_assign (fe_t rfl)) ?_)
            refine tl_nil ?_
            refine tx_then ?_
            refine tr_ret ?_
            refine tx_ret (res1 Try.results6 (rok_t rfl)) (fun w' hS => ?_)
            exact ⟨ret_bool (by first | rfl | (simp; done)), hS.pick [] _ rfl (by decide)⟩
      · exfalso; omega
    · exfalso; omega

set_option maxRecDepth 100000 in
set_option maxHeartbeats 8000000 in
theorem mlaw_p {u v x y : Int} (ha : WB u v) (hx : 0 ≤ x ∧ x ≤ 18446744073709551615) (hy : 0 ≤ y ∧ y ≤ 18446744073709551615) (hz : 0 < x ∧ 0 < y) (w : World) :
    Calls Try.prog 6 #[.agg #[.int .u64 u, .int .u64 v], .int .u64 x, .int .u64 y] w fun e w' => e = .returned (.bool true) ∧ St w w' [] := by
  have hxy := wprod hx hy
  have ha2 := ha
  obtain ⟨a0, a1, a2, a3⟩ := ha2
  have hgl : (Int.gcd x y : Int) ≤ 18446744073709551615 := by
    by_cases h : x = 0
    · rw [h, Int.gcd_zero_left]; omega
    · have h1 := Int.gcd_le_left y (show 0 < x by omega); omega
  have hg : 0 < (Int.gcd x y : Int) := by have := Int.gcd_pos_of_ne_zero_left y (show x ≠ 0 by omega); omega
  have hd0 : 0 ≤ (x * y / 18446744073709551616 % 18446744073709551616 * 18446744073709551616 + x * y % 18446744073709551616) / (Int.gcd x y : Int) := Int.ediv_nonneg (by omega) (by omega)
  have hd1 : (x * y / 18446744073709551616 % 18446744073709551616 * 18446744073709551616 + x * y % 18446744073709551616) / (Int.gcd x y : Int) ≤ x * y / 18446744073709551616 % 18446744073709551616 * 18446744073709551616 + x * y % 18446744073709551616 := Int.ediv_le_self _ (by omega)
  have hv0 : 0 ≤ (u * 18446744073709551616 + v) / x := Int.ediv_nonneg (by omega) (by omega)
  have hv1 : (u * 18446744073709551616 + v) / x ≤ u * 18446744073709551616 + v := Int.ediv_le_self _ (by omega)
  have hv2 := Int.emod_nonneg (u * 18446744073709551616 + v) (show x ≠ 0 by omega)
  have hv3 := Int.emod_lt_of_pos (u * 18446744073709551616 + v) (show 0 < x by omega)
  refine calls_tr Try.func6 Try.ntmps6 rfl rfl (St.refl _) ?_
  refine tr_seq ?_
  refine tr_region ?_
  refine tl_step rfl (oj_box (fe_t rfl) (fun b1 => ?_))
  refine tl_step rfl (oj_val (y_assign fe_c) ?_)
  refine tl_nil ?_
  refine tx_then ?_
  refine tr_seq ?_
  refine tr_add (r := bag [] [] []) bag_nil rfl ?_
  refine tr_region ?_
  refine tl_step rfl (oj_allocN 0 Try.zeroValue35 rfl (fun b_i1 H_i1 => ?_))
  refine tl_step rfl (oj_val (y_move (fe_t rfl)) ?_)
  refine tl_step rfl (oj_call2 Try.call30 fe_f (fel_cons (fe_t rfl) fel_nil) (fun w' hS => lift 0 hS rfl (fun T hS => aofW hS x (by omega) (by omega))) (fun r1 hr1 => ?_))
  refine tl_step rfl (oj_val (y_move (fe_t rfl)) ?_)
  refine tl_step rfl (oj_call2 Try.call30 fe_f (fel_cons (fe_t rfl) fel_nil) (fun w' hS => lift 0 hS rfl (fun T hS => aofW hS y (by omega) (by omega))) (fun r2 hr2 => ?_))
  refine tl_step rfl (oj_call2 Try.call46 fe_f (fel_cons (fe_t rfl) (fel_cons (fe_t rfl) (fel_cons (fe_t rfl) fel_nil))) (fun w' hS => lift1 (p := fun n_ => n_.is (x * y)) 0 2 hS rfl rfl (fun T l' hm hS => mulB hS (hm _ (pget_mem 1 rfl)) (hm _ (pget_mem 0 rfl)) hr1 hr2 (Nat.le_trans (nm_sm hr1 (sm_of (by omega) (by omega))) (by decide)) (Nat.le_trans (nm_sm hr2 (sm_of (by omega) (by omega))) (by decide)))) (fun r3 hr3 => ?_))
  refine tl_step rfl (oj_call2 Try.call40 fe_f (fel_cons (fe_t rfl) fel_nil) (fun w' hS => lift 0 hS rfl (fun T hS => awideE hS (pget_mem 2 rfl) hr3 (by omega) (by omega))) (fun r4 _ => ?_))
  refine tl_step rfl (oj_val (y_move (fe_t rfl)) ?_)
  refine tl_step rfl (oj_val (y_extract (fe_t rfl) rfl) ?_)
  refine tl_step rfl (oj_val (y_extract (fe_t rfl) rfl) ?_)
  refine tl_step rfl (oj_alloc Try.zeroValue54 (fun b2 => ?_))
  refine tl_step rfl (oj_storeW 0 Try.sizeOf54 (fe_t rfl) (fe_t rfl) rfl rfl rfl rfl rfl (?_))
  refine tl_step rfl (oj_val (y_assign (fe_t rfl)) ?_)
  refine tl_nil ?_
  refine tx_then ?_
  refine tr_seq ?_
  refine tr_region ?_
  refine tl_step rfl (oj_allocN 1 Try.zeroValue35 rfl (fun b_i4 H_i4 => ?_))
  refine tl_step rfl (oj_val (y_move (fe_t rfl)) ?_)
  refine tl_step rfl (oj_call2 Try.call30 fe_f (fel_cons (fe_t rfl) fel_nil) (fun w' hS => lift 1 hS rfl (fun T hS => aofW hS x (by omega) (by omega))) (fun r5 hr5 => ?_))
  refine tl_step rfl (oj_val (y_move (fe_t rfl)) ?_)
  refine tl_step rfl (oj_call2 Try.call30 fe_f (fel_cons (fe_t rfl) fel_nil) (fun w' hS => lift 1 hS rfl (fun T hS => aofW hS y (by omega) (by omega))) (fun r6 hr6 => ?_))
  refine tl_step rfl (oj_call2 Try.call47 fe_f (fel_cons (fe_t rfl) (fel_cons fe_c (fel_cons fe_c (fel_cons (fe_t rfl) (fel_cons (fe_t rfl) fel_nil))))) (fun w' hS => lift1 (p := fun n_ => n_.is ((Int.gcd (x) (y) : Int))) 1 2 hS rfl rfl (fun T l' hm hS => gcdS hS (hm _ (pget_mem 1 rfl)) (hm _ (pget_mem 0 rfl)) hr5 hr6 (by omega) (by omega) (by omega) (by omega))) (fun r7 hr7 => ?_))
  refine tl_step rfl (oj_val (y_assign (fe_t rfl)) ?_)
  refine tl_nil ?_
  refine tx_then ?_
  refine tr_seq ?_
  refine tr_seq ?_
  refine tr_region ?_
  refine tl_step rfl (oj_val (y_move (fe_t rfl)) ?_)
  refine tl_step rfl (oj_val (y_eq (fe_t rfl) fe_c) ?_)
  refine tl_step rfl (oj_val (y_move (fe_t rfl)) ?_)
  refine tl_splitp (d := 36) rfl (fun hq1 => ?_) (fun hq2 => ?_)
  · exfalso; omega
  · refine tl_want rfl rfl rfl (oj_val (y_move (fe_t rfl)) ?_)
    refine tl_want rfl rfl rfl (oj_val (y_eq (fe_t rfl) fe_c) ?_)
    refine tl_step rfl (oj_val (y_pickf (fe_t rfl) (fe_t rfl)) ?_)
    refine tl_nil ?_
    refine tx_then ?_
    refine tr_condp (fe_t rfl) (fun hq3 => ?_) (fun hq4 => ?_)
    · exfalso; omega
    · refine tr_skip ?_
      refine tx_then ?_
      refine tr_seq ?_
      refine tr_region ?_
      refine tl_step rfl (oj_alloc Try.zeroValue54 (fun b3 => ?_))
      refine tl_nil ?_
      refine tx_then ?_
      refine tr_seq ?_
      refine tr_seq ?_
      refine tr_region ?_
      refine tl_step rfl (oj_val (y_move (fe_t rfl)) ?_)
      refine tl_step rfl (oj_val (y_gtr (fe_t rfl) fe_c) ?_)
      refine tl_step rfl (oj_val (y_move (fe_t rfl)) ?_)
      refine tl_splitp (d := 46) rfl (fun hq5 => ?_) (fun hq6 => ?_)
      · refine tl_want rfl rfl rfl (oj_val (y_move (fe_t rfl)) ?_)
        refine tl_want rfl rfl rfl (oj_val (y_gtr (fe_t rfl) fe_c) ?_)
        refine tl_step rfl (oj_val (y_pickt (fe_t rfl) (fe_t rfl)) ?_)
        refine tl_nil ?_
        refine tx_then ?_
        refine tr_condp (fe_t rfl) (fun hq7 => ?_) (fun hq8 => ?_)
        · refine tr_region ?_
          refine tl_step rfl (oj_allocN 2 Try.zeroValue35 rfl (fun b_i7 H_i7 => ?_))
          refine tl_step rfl (oj_val (y_ldbA 1 Try.isAgg54 Try.sizeOf54 (fe_t rfl) rfl rfl rfl) ?_)
          refine tl_step rfl (oj_call2 Try.call37 fe_f (fel_cons (fe_t rfl) fel_nil) (fun w' hS => lift 2 hS rfl (fun T hS => abigE hS (wb_wr hxy.1))) (fun r8 hr8 => ?_))
          refine tl_step rfl (oj_val (y_move (fe_t rfl)) ?_)
          refine tl_step rfl (oj_call2 Try.call32 fe_f (fel_cons (fe_t rfl) (fel_cons (fe_t rfl) (fel_cons (fe_t rfl) fel_nil))) (fun w' hS => lift1 (p := fun n_ => n_.is ((x * y / 18446744073709551616 % 18446744073709551616 * 18446744073709551616 + x * y % 18446744073709551616) / ((Int.gcd (x) (y) : Int)))) 2 1 hS rfl rfl (fun T l' hm hS => divB hS (hm _ (pget_mem 0 rfl)) (hm _ (pget_mem 4 rfl)) hr8 hr7 (by omega) (sm_of (by omega) (by omega)) (sm_of (by omega) (by omega)))) (fun r9 hr9 => ?_))
          refine tl_step rfl (oj_call2 Try.call40 fe_f (fel_cons (fe_t rfl) fel_nil) (fun w' hS => lift 2 hS rfl (fun T hS => awideE hS (pget_mem 1 rfl) hr9 (by omega) (by omega))) (fun r10 _ => ?_))
          refine tl_step rfl (oj_val (y_move (fe_t rfl)) ?_)
          refine tl_step rfl (oj_val (y_extract (fe_t rfl) rfl) ?_)
          refine tl_step rfl (oj_val (y_extract (fe_t rfl) rfl) ?_)
          refine tl_step rfl (oj_storeW 0 Try.sizeOf54 (fe_t rfl) (fe_t rfl) rfl rfl rfl rfl rfl (?_))
          refine tl_nil ?_
          refine tx_then ?_
          refine tr_seq ?_
          refine tr_seq ?_
          refine tb_draw 99 (sel _ [0, 1, 2, 3]) (fun w h => h.sel _ rfl (by decide)) rfl ?_
          refine tb_float (i := 0) rfl (by kernel_rfl) rfl (wants_none rfl) (yq_of (y_move (fe_t rfl))) ?_
          refine tb_float (i := 1) rfl (by kernel_rfl) rfl (wants_none rfl) (yq_of (y_move (fe_t rfl))) ?_
          refine tb_float (i := 2) rfl (by kernel_rfl) rfl (wants_none rfl) (yq_call Try.call48 fe_f (fel_cons (fe_t rfl) (fel_cons (fe_t rfl) fel_nil)) (fun w' hS => wmulE hx hy w')) ?_
          refine tb_float (i := 3) rfl (by kernel_rfl) rfl (wants_none rfl) (yq_of (y_ldbA 1 Try.isAgg54 Try.sizeOf54 (fe_t rfl) rfl rfl rfl)) ?_
          refine tb_float (i := 4) rfl (by kernel_rfl) rfl (wants_none rfl) (yq_of (y_binop (fe_t rfl) (fe_t rfl) (fun w => ne_wide _ _ w))) ?_
          refine tb_float (i := 5) rfl (by kernel_rfl) rfl (wants_none rfl) (yq_of (y_move (fe_t rfl))) ?_
          refine tb_float (i := 6) rfl (by kernel_rfl) rfl (wants_t rfl rfl rfl) (yq_of (y_move (fe_t rfl))) ?_
          refine tb_float (i := 7) rfl (by kernel_rfl) rfl (wants_t rfl rfl rfl) (yq_of (y_move (fe_t rfl))) ?_
          refine tb_float (i := 8) rfl (by kernel_rfl) rfl (wants_t rfl rfl rfl) (yq_call Try.call49 fe_f (fel_cons (fe_t rfl) (fel_cons (fe_t rfl) fel_nil)) (fun w' hS => wgcdE hx hy w')) ?_
          refine tb_float (i := 9) rfl (by kernel_rfl) rfl (wants_t rfl rfl rfl) (yq_of (y_move (fe_t rfl))) ?_
          refine tb_float (i := 10) rfl (by kernel_rfl) rfl (wants_t rfl rfl rfl) (yq_call Try.call31 fe_f (fel_cons (fe_t rfl) fel_nil) (fun w' hS => of_eq (uint_any _ _ _ _ (bag_int hS 2 rfl (pget_mem 4 rfl) hr7) (by omega) (by omega)))) ?_
          refine tb_float (i := 11) rfl (by kernel_rfl) rfl (wants_t rfl rfl rfl) (yq_of (ne_eqi (by omega) (fe_t rfl) (fe_t rfl))) ?_
          refine tb_float (i := 12) rfl (by kernel_rfl) rfl (wants_none rfl) (yq_of (y_pickf (fe_t rfl) (fe_t rfl))) ?_
          refine tb_float (i := 13) rfl (by kernel_rfl) rfl (wants_none rfl) (yq_of (y_move (fe_t rfl))) ?_
          refine tb_float (i := 14) rfl (by kernel_rfl) rfl (wants_t rfl rfl rfl) (yq_of (y_move (fe_t rfl))) ?_
          refine tb_float (i := 15) rfl (by kernel_rfl) rfl (wants_t rfl rfl rfl) (yq_of (y_move (fe_t rfl))) ?_
          refine tb_float (i := 16) rfl (by kernel_rfl) rfl (wants_t rfl rfl rfl) (yq_call Try.call50 fe_f (fel_cons (fe_t rfl) (fel_cons (fe_t rfl) fel_nil)) (fun w' hS => wlcm_p hx hy w' hz)) ?_
          refine tb_float (i := 17) rfl (by kernel_rfl) rfl (wants_t rfl rfl rfl) (yq_of (y_ldbA 0 Try.isAgg54 Try.sizeOf54 (fe_t rfl) rfl rfl rfl)) ?_
          refine tb_float (i := 18) rfl (by kernel_rfl) rfl (wants_t rfl rfl rfl) (yq_of (y_binop (fe_t rfl) (fe_t rfl) (fun w => ne_wr (lcm_eq hz.1 hz.2 (by omega)) w))) ?_
          refine tb_float (i := 19) rfl (by kernel_rfl) rfl (wants_none rfl) (yq_of (y_pickf (fe_t rfl) (fe_t rfl))) ?_
          refine tb_done (by kernel_rfl) ?_
          refine tx_then ?_
          refine tr_condf (fe_t rfl) ?_
          refine tr_skip ?_
          refine tx_then ?_
          refine tr_seq ?_
          refine tr_region ?_
          refine tl_step rfl (oj_val (y_ldbA 3 Try.isAgg54 Try.sizeOf54 (fe_t rfl) rfl rfl rfl) ?_)
          refine tl_step rfl (oj_val (y_move (fe_t rfl)) ?_)
          refine tl_step rfl (oj_callv Try.call51 fe_f (fel_cons (fe_t rfl) (fel_cons (fe_t rfl) fel_nil)) (fun w' hS => wdiv_p ha hz.1 hx.2 w') ?_)
          refine tl_step rfl (oj_val (y_move (fe_t rfl)) ?_)
          refine tl_step rfl (oj_val (y_extract (fe_t rfl) rfl) ?_)
          refine tl_step rfl (oj_val (y_extract (fe_t rfl) rfl) ?_)
          refine tl_step rfl (oj_val (y_extract (fe_t rfl) rfl) ?_)
          refine tl_step rfl (oj_alloc Try.zeroValue54 (fun b4 => ?_))
          refine tl_step rfl (oj_storeW 0 Try.sizeOf54 (fe_t rfl) (fe_t rfl) rfl rfl rfl rfl rfl (?_))
          refine tl_step rfl (oj_val (y_assign (fe_t rfl)) ?_)
          refine tl_step rfl (oj_val (y_assign (fe_t rfl)) ?_)
          refine tl_nil ?_
          refine tx_then ?_
          refine tr_seq ?_
          refine tr_seq ?_
          refine tr_region ?_
          refine tl_step rfl (oj_val (y_move (fe_t rfl)) ?_)
          refine tl_step rfl (oj_val (y_eq (fe_t rfl) fe_c) ?_)
          refine tl_nil ?_
          refine tx_then ?_
          refine tr_condp (fe_t rfl) (fun hq9 => ?_) (fun hq10 => ?_)
          · exfalso; omega
          · refine tr_skip ?_
            refine tx_then ?_
            refine tr_seq ?_
            refine tr_region ?_
            refine tl_step rfl (oj_allocN 3 Try.zeroValue35 rfl (fun b_i9 H_i9 => ?_))
            refine tl_step rfl (oj_val (y_ldbA 4 Try.isAgg54 Try.sizeOf54 (fe_t rfl) rfl rfl rfl) ?_)
            refine tl_step rfl (oj_call2 Try.call37 fe_f (fel_cons (fe_t rfl) fel_nil) (fun w' hS => lift 3 hS rfl (fun T hS => abigE hS ha)) (fun r12 hr12 => ?_))
            refine tl_step rfl (oj_val (y_move (fe_t rfl)) ?_)
            refine tl_step rfl (oj_call2 Try.call30 fe_f (fel_cons (fe_t rfl) fel_nil) (fun w' hS => lift 3 hS rfl (fun T hS => aofW hS x (by omega) (by omega))) (fun r13 hr13 => ?_))
            refine tl_step rfl (oj_allocN 3 Try.zeroValue35 rfl (fun b_i12 H_i12 => ?_))
            refine tl_step rfl (oj_call2 Try.call52 fe_f (fel_cons (fe_t rfl) (fel_cons (fe_t rfl) (fel_cons (fe_t rfl) (fel_cons (fe_t rfl) fel_nil)))) (fun w' hS => lift2 (p := fun m_ n_ => m_.is ((u * 18446744073709551616 + v) / x) ∧ n_.is ((u * 18446744073709551616 + v) % x)) 3 3 0 hS rfl rfl rfl rfl (fun T l' hm hS => divmodB hS (hm _ (pget_mem 2 rfl)) (hm _ (pget_mem 1 rfl)) hr12 hr13 (by omega) (sm_of (by omega) (by omega)) (sm_of (by omega) (by omega)))) (fun r14 hr14 => ?_))
            refine tl_step rfl (oj_val (y_move (fe_t rfl)) ?_)
            refine tl_step rfl (oj_val (y_extract (fe_t rfl) rfl) ?_)
            refine tl_step rfl (oj_val (y_extract (fe_t rfl) rfl) ?_)
            refine tl_step rfl (oj_val (y_assign (fe_t rfl)) ?_)
            refine tl_step rfl (oj_val (y_assign (fe_t rfl)) ?_)
            refine tl_nil ?_
            refine tx_then ?_
            refine tr_seq ?_
            refine tr_region ?_
            refine tl_step rfl (oj_val (y_move (fe_t rfl)) ?_)
            refine tl_step rfl (oj_call2 Try.call40 fe_f (fel_cons (fe_t rfl) fel_nil) (fun w' hS => lift 3 hS rfl (fun T hS => awideE hS (pget_mem 3 rfl) hr14.1 (by omega) (by omega))) (fun r15 _ => ?_))
            refine tl_step rfl (oj_val (y_move (fe_t rfl)) ?_)
            refine tl_step rfl (oj_val (y_extract (fe_t rfl) rfl) ?_)
            refine tl_step rfl (oj_val (y_extract (fe_t rfl) rfl) ?_)
            refine tl_step rfl (oj_alloc Try.zeroValue54 (fun b5 => ?_))
            refine tl_step rfl (oj_storeW 0 Try.sizeOf54 (fe_t rfl) (fe_t rfl) rfl rfl rfl rfl rfl (?_))
            refine tl_step rfl (oj_val (y_assign (fe_t rfl)) ?_)
            refine tl_nil ?_
            refine tx_then ?_
            refine tr_seq ?_
            refine tr_region ?_
            refine tl_step rfl (oj_val (y_move (fe_t rfl)) ?_)
            refine tl_step rfl (oj_val (eq_eqi rfl (fe_t rfl) fe_c) ?_)
            refine tl_step rfl (oj_val (y_move (fe_t rfl)) ?_)
            refine tl_want rfl rfl rfl (oj_val (y_ldbA 1 Try.isAgg54 Try.sizeOf54 (fe_t rfl) rfl rfl rfl) ?_)
            refine tl_want rfl rfl rfl (oj_val (y_ldbA 0 Try.isAgg54 Try.sizeOf54 (fe_t rfl) rfl rfl rfl) ?_)
            refine tl_want rfl rfl rfl (oj_val (y_binop (fe_t rfl) (fe_t rfl) (fun w => eq_wide' _ _ w)) ?_)
            refine tl_step rfl (oj_val (y_pickt (fe_t rfl) (fe_t rfl)) ?_)
            refine tl_step rfl (oj_val (y_move (fe_t rfl)) ?_)
            refine tl_want rfl rfl rfl (oj_val (y_move (fe_t rfl)) ?_)
            refine tl_want rfl rfl rfl (oj_val (y_move (fe_t rfl)) ?_)
            refine tl_want rfl rfl rfl (oj_callv Try.call31 fe_f (fel_cons (fe_t rfl) fel_nil) (fun w' hS => of_eq (uint_any _ _ _ _ (bag_int hS 4 rfl (pget_mem 0 rfl) hr14.2) (by omega) (by omega))) ?_)
            refine tl_want rfl rfl rfl (oj_val (eq_eqi (by omega) (fe_t rfl) (fe_t rfl)) ?_)
            refine tl_step rfl (oj_val (y_pickt (fe_t rfl) (fe_t rfl)) ?_)
            refine tl_step rfl (oj_val (y_assign (fe_t rfl)) ?_)
            refine tl_nil ?_
            refine tx_then ?_
            refine tr_ret ?_
            refine tx_ret (res1 Try.results6 (rok_t rfl)) (fun w' hS => ?_)
            exact ⟨ret_bool (by first | rfl | (simp; done)), hS.pick [] _ rfl (by decide)⟩
        · exfalso; omega
      · exfalso; omega

end Go.Proofs.Ytcpdelkamckmfaa.Frac
