/- TGap, slices.Equal. -/
import Derived.Test.YtcpdelkamckmfaaRedA
namespace Go.Proofs.Ytcpdelkamckmfaa.Red
open Go.RowKit Go.Proofs.Ytcpdelkamckmfaa.E Go.Proofs.Ytcpdelkamckmfaa.Big Go.Proofs.Ytcpdelkamckmfaa.Frac

theorem y_neqbs {P : Program} {N : Nat} {w0 : World} {F : Frm} {L : List Res} {d : Option Tmp} {x y : Operand} {ty t t' : TypeId} {pos : String} {af : Array Edge} {gd : Option (Nat × Bool)} {a : Bool} (hu : P.underlying t = some .bool) (hx : FE N F x (.bool a)) (hy : FE N F y (.bool a)) : Yld P N w0 F L ⟨d, .binOp .neq t x y t', ty, pos, af, gd⟩ (.bool false) := by
  have := y_neqb (w0 := w0) (L := L) (d := d) (ty := ty) (pos := pos) (af := af) (gd := gd) (t' := t') hu hx hy
  rwa [show (!(a == a)) = false by simp] at this
set_option maxRecDepth 100000 in
set_option maxHeartbeats 1000000 in
theorem eq_bools (A B : Option Addr) (n c d : Nat) (zs : List Bool) (w : World) (h1 : Rd w A (bools zs)) (h2 : Rd w B (bools zs)) (hn : zs.length = n) (hm : n ≤ 140737488355328) :
    Calls Try.prog 56 #[.slice A n c, .slice B n d] w fun e w' => e = .returned (.bool true) ∧ St w w' [] := by
  refine calls_tr Try.func56 Try.ntmps56 rfl rfl (St.refl _) ?_
  refine tr_seq ?_
  refine tr_region ?_
  refine tl_step rfl (oj_val (y_assign fe_c) ?_)
  refine tl_nil ?_
  refine tx_then ?_
  refine tr_seq ?_
  refine tr_seq ?_
  refine tr_region ?_
  refine tl_step rfl (oj_val (y_move (fe_t rfl)) ?_)
  refine tl_step rfl (oj_val (y_len Try.underlying73 (fe_t rfl)) ?_)
  refine tl_step rfl (oj_val (y_move (fe_t rfl)) ?_)
  refine tl_step rfl (oj_val (y_len Try.underlying73 (fe_t rfl)) ?_)
  refine tl_step rfl (oj_val (y_neq (fe_t rfl) (fe_t rfl)) ?_)
  refine tl_nil ?_
  refine tx_then ?_
  refine tr_condp (fe_t rfl) (fun hq1 => ?_) (fun hq2 => ?_)
  · exact absurd rfl hq1
  · refine tr_skip ?_
    refine tx_then ?_
    refine tr_seq ?_
    refine tr_seq ?_
    refine tr_region ?_
    refine tl_step rfl (oj_val (y_move (fe_t rfl)) ?_)
    refine tl_step rfl (oj_val (y_len Try.underlying73 (fe_t rfl)) ?_)
    refine tl_step rfl (oj_val (y_move fe_c) ?_)
    refine tl_nil ?_
    refine tx_then ?_
    refine tr_block ?_
    refine tr_loop1 [4, 5, 13, 14, 15, 16, 17, 18, 19, 20, 21, 22, 23, 24, 25] (fun (k : Nat) => [(13, .int .i64 (k : Int))]) 0 (fun (k : Nat) => []) (fun (k : Nat) => k ≤ n) (fun (k : Nat) => n - k) (0) (cov_cons (by first | rfl | exact v_int (by omega) | exact v_bool (by simp [*])) (cov_nil)) (fun w h => h) ?_ ?_
    · try dsimp only
      omega
    intro k hp
    refine tr_seq ?_
    refine tr_region ?_
    refine tl_step rfl (oj_val (y_lss (fe_t rfl) (fe_t rfl)) ?_)
    refine tl_nil ?_
    refine tx_then ?_
    refine tr_seq ?_
    refine tr_condp (fe_t rfl) (fun hq3 => ?_) (fun hq4 => ?_)
    · refine tr_skip ?_
      refine tx_then ?_
      refine tr_seq ?_
      refine tr_block ?_
      refine tr_seq ?_
      refine tr_region ?_
      refine tl_step rfl (oj_val (y_move (fe_t rfl)) ?_)
      refine tl_step rfl (oj_val (y_assign (fe_t rfl)) ?_)
      refine tl_nil ?_
      refine tx_then ?_
      refine tr_seq ?_
      refine tb_draw 9 (sel _ []) (fun w h => h.sel _ rfl (by decide)) rfl ?_
      refine tb_float (i := 0) rfl (by kernel_rfl) rfl (wants_none rfl) (yq_of (y_move (fe_t rfl))) ?_
      refine tb_float (i := 1) rfl (by kernel_rfl) rfl (wants_none rfl) (yq_of (y_move (fe_t rfl))) ?_
      refine tb_float (i := 2) rfl (by kernel_rfl) rfl (wants_none rfl) (yq_of (y_index Try.underlying73 Try.sizeOf4 (fe_t rfl) (fe_t rfl) (rdl_out h1) (by simp [bools]; omega) (by decide) (by omega) (Nat.mul_one _))) ?_
      refine tb_float (i := 3) rfl (by kernel_rfl) rfl (wants_none rfl) (yq_of (y_ld (v := .bool (zs[k]'(by omega))) Try.isAgg4 (fe_t rfl) (rdl_out h1) (by simp [bools]))) ?_
      refine tb_float (i := 4) rfl (by kernel_rfl) rfl (wants_none rfl) (yq_of (y_move (fe_t rfl))) ?_
      refine tb_float (i := 5) rfl (by kernel_rfl) rfl (wants_none rfl) (yq_of (y_move (fe_t rfl))) ?_
      refine tb_float (i := 6) rfl (by kernel_rfl) rfl (wants_none rfl) (yq_of (y_index Try.underlying73 Try.sizeOf4 (fe_t rfl) (fe_t rfl) (rdl_out h2) (by simp [bools]; omega) (by decide) (by omega) (Nat.mul_one _))) ?_
      refine tb_float (i := 7) rfl (by kernel_rfl) rfl (wants_none rfl) (yq_of (y_ld (v := .bool (zs[k]'(by omega))) Try.isAgg4 (fe_t rfl) (rdl_out h2) (by simp [bools]))) ?_
      refine tb_float (i := 8) rfl (by kernel_rfl) rfl (wants_none rfl) (yq_of (y_neqbs Try.underlying4 (fe_t rfl) (fe_t rfl))) ?_
      refine tb_done (by kernel_rfl) ?_
      refine tx_then ?_
      refine tr_condf (fe_t rfl) ?_
      refine tr_skip ?_
      refine tx_in ?_
      refine tx_then ?_
      refine tr_region ?_
      refine tl_step rfl (oj_val (y_inc (fe_t rfl) fe_c (by omega)) ?_)
      refine tl_step rfl (oj_val (y_move (fe_t rfl)) ?_)
      refine tl_nil ?_
      apply tx_back1 (k + 1)
      · exact (cov_cons (by first | rfl | exact v_int (by omega) | exact v_bool (by simp [*])) (cov_nil))
      · repeat (first | exact over_nil | refine over_put rfl ?_ | refine over_drop rfl ?_)
      · exact fun w h => h.pick [] _ rfl (by decide)
      · exact ⟨by omega, by omega⟩
    · refine tr_exit ?_
      refine tx_then_exit ?_
      refine tx_then_exit ?_
      refine tx_in_exit ?_
      refine tx_then ?_
      refine tr_seq ?_
      refine tr_region ?_
      refine tl_step rfl (oj_val (y_assign fe_c) ?_)
      refine tl_nil ?_
      refine tx_then ?_
      refine tr_ret ?_
      refine tx_ret (res1 Try.results56 (rok_t rfl)) (fun w' hS => ?_)
      exact ⟨rfl, hS.pick [] _ rfl (by decide)⟩

theorem lsh20 {w0 w : World} {T : List Res} {H D : List Nat} {l : List Ent} {b o : Nat} {q : Nm} (hS : St w0 w (bag H D (⟨b, o, q⟩ :: l) :: T)) {b_x o_x : Nat} {x : Nm} {n : Nat} (mx : (⟨b_x, o_x, x⟩ : Ent) ∈ (⟨b, o, q⟩ : Ent) :: l) (hx : x.is (n : Int)) (lx : x.n ≤ 100000) :
    Calls Try.prog 118 #[.pointer (some ⟨b, o, none⟩), .pointer (some ⟨b_x, o_x, none⟩), .int .u64 20] w fun e w' => ∃ r : B1, r.q.is (((n * 1048576 : Nat) : Int)) ∧ e = .returned (.pointer (some ⟨b, o, none⟩)) ∧ St w0 w' (bag r.H r.D (⟨b, o, r.q⟩ :: l) :: T) := by
  have := lshB hS mx hx lx 20 (by decide)
  rw [show (n : Int) * 2 ^ 20 = ((n * 1048576 : Nat) : Int) by rw [Int.natCast_mul]; rfl] at this
  exact this
set_option maxRecDepth 100000 in
set_option maxHeartbeats 2000000 in
theorem tgapE {iv : Int} {n : Nat} (h0 : 1 ≤ iv) (h1 : iv ≤ 1048576) (h2 : 1 ≤ n) (h3 : n ≤ 400) (w : World) :
    Calls Try.prog 57 #[(.int .i64 iv), (.int .i64 ((n : Int)))] w fun e w' => e = .returned ((.int .i64 (gapv iv n))) ∧ St w w' [] := by
  have hgb := gapv_bd h0 h1 h2
  have hl := isq_low h2
  have hrm : isq (n * 1048576) < 4294967296 := by have h := (isq_ok (n * 1048576)).1; rcases Nat.lt_or_ge (isq (n * 1048576)) 4294967296 with h1 | h1; exact h1; have := sq_ge h1; omega
  refine calls_tr Try.func57 Try.ntmps57 rfl rfl (St.refl _) ?_
  refine tr_seq ?_
  refine tr_region ?_
  refine tl_step rfl (oj_val (y_assign fe_c) ?_)
  refine tl_nil ?_
  refine tx_then ?_
  refine tr_seq ?_
  refine tr_add (r := bag [] [] []) bag_nil rfl ?_
  refine tr_region ?_
  refine tl_step rfl (oj_allocN 0 Try.zeroValue35 rfl (fun b_i1 H_i1 => ?_))
  refine tl_step rfl (oj_allocN 0 Try.zeroValue35 rfl (fun b_i2 H_i2 => ?_))
  refine tl_step rfl (oj_val (y_move (fe_t rfl)) ?_)
  refine tl_step rfl (oj_call2 Try.call111 fe_f (fel_cons (fe_t rfl) fel_nil) (fun w' hS => lift 0 hS rfl (fun T hS => newB hS (n : Int) (by omega) (by omega))) (fun r1 hr1 => ?_))
  refine tl_step rfl (oj_call2 Try.call118 fe_f (fel_cons (fe_t rfl) (fel_cons (fe_t rfl) (fel_cons fe_c fel_nil))) (fun w' hS => lift1 (p := fun n_ => n_.is (((n * 1048576 : Nat) : Int))) 0 1 hS rfl rfl (fun T l' hm hS => lsh20 hS (hm _ (pget_mem 0 rfl)) hr1 (Nat.le_trans (nm_sm hr1 (sm_of (by omega) (by omega))) (by decide)))) (fun r2 hr2 => ?_))
  refine tl_step rfl (oj_call2 Try.call29 fe_f (fel_cons (fe_t rfl) (fel_cons (fe_t rfl) fel_nil)) (fun w' hS => lift1 (p := fun n_ => n_.is (((isq (n * 1048576) : Nat) : Int))) 0 2 hS rfl rfl (fun T l' hm hS => sqrtB hS (hm _ (pget_mem 1 rfl)) hr2 (show n * 1048576 < 18446744073709551616 by omega))) (fun r3 hr3 => ?_))
  refine tl_step rfl (oj_val (y_assign (fe_t rfl)) ?_)
  refine tl_nil ?_
  refine tx_then ?_
  refine tr_seq ?_
  refine tr_region ?_
  refine tl_step rfl (oj_allocN 0 Try.zeroValue35 rfl (fun b_i4 H_i4 => ?_))
  refine tl_step rfl (oj_val (y_move (fe_t rfl)) ?_)
  refine tl_step rfl (oj_val (y_mul (fe_t rfl) fe_c (by omega)) ?_)
  refine tl_step rfl (oj_call2 Try.call111 fe_f (fel_cons (fe_t rfl) fel_nil) (fun w' hS => lift 0 hS rfl (fun T hS => newB hS (iv * 1024) (by omega) (by omega))) (fun r4 hr4 => ?_))
  refine tl_step rfl (oj_val (y_move (fe_t rfl)) ?_)
  refine tl_step rfl (oj_call2 Try.call32 fe_f (fel_cons (fe_t rfl) (fel_cons (fe_t rfl) (fel_cons (fe_t rfl) fel_nil))) (fun w' hS => lift1 (p := fun n_ => n_.is ((iv * 1024) / (((isq (n * 1048576) : Nat) : Int)))) 0 1 hS rfl rfl (fun T l' hm hS => divS hS (hm _ (pget_mem 0 rfl)) (hm _ (pget_mem 4 rfl)) hr4 hr3 (by omega) (by omega) (by omega) (sm_of (by omega) (by omega)))) (fun r5 hr5 => ?_))
  refine tl_step rfl (oj_callv Try.call36 fe_f (fel_cons (fe_t rfl) fel_nil) (fun w' hS => of_eq (int64_any _ _ _ _ (bag_int hS 0 rfl (pget_mem 1 rfl) hr5) (by unfold gapv at hgb; omega) (by unfold gapv at hgb; omega))) ?_)
  refine tl_step rfl (oj_val (y_assign (fe_t rfl)) ?_)
  refine tl_nil ?_
  refine tx_then ?_
  refine tr_ret ?_
  refine tx_ret (res1 Try.results57 (rok_t rfl)) (fun w' hS => ?_)
  exact ⟨rfl, hS.pick [] _ rfl (by decide)⟩

end Go.Proofs.Ytcpdelkamckmfaa.Red
