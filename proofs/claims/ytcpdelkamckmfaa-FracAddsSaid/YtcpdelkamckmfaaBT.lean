/- The Int library, numbers held together: fractions: Add, Mul. -/
import Derived.Test.YtcpdelkamckmfaaBR
namespace Go.Proofs.Ytcpdelkamckmfaa.Big
open Go.RowKit Go.Proofs.Ytcpdelkamckmfaa.E

theorem rat_add {p q : Nm} {x y : Rat} (h : RatIs p q (mkRat (x.num * (y.den : Int) + y.num * (x.den : Int)) ((x.den : Int) * (y.den : Int)).toNat)) : RatIs p q (x + y) := by
  rw [Rat.add_def, Rat.normalize_eq_mkRat]
  rwa [show ((x.den : Int) * (y.den : Int)).toNat = x.den * y.den by rw [← Int.natCast_mul]; rfl] at h
theorem rat_mul {p q : Nm} {x y : Rat} (h : RatIs p q (mkRat (x.num * y.num) ((x.den : Int) * (y.den : Int)).toNat)) : RatIs p q (x * y) := by
  rw [Rat.mul_def, Rat.normalize_eq_mkRat]
  rwa [show ((x.den : Int) * (y.den : Int)).toNat = x.den * y.den by rw [← Int.natCast_mul]; rfl] at h
theorem rat_neg {p q : Nm} {x : Rat} (h : RatIs p q (mkRat (-x.num) (x.den : Int).toNat)) : RatIs p q (-x) := by
  have e : mkRat (-x.num) (x.den : Int).toNat = -x := by
    rw [show (x.den : Int).toNat = x.den from rfl, ← Rat.neg_mkRat, Rat.mkRat_self]
  rwa [e] at h
theorem neg_nd (x : Rat) : (-x).num = -x.num ∧ (-x).den = x.den := ⟨rfl, rfl⟩
theorem rat_set {p q : Nm} {x : Rat} (h : RatIs p q (mkRat x.num (x.den : Int).toNat)) : RatIs p q x := by
  rwa [show (x.den : Int).toNat = x.den from rfl, Rat.mkRat_self] at h
theorem rat_inv {p q : Nm} {x : Rat} (hx : 0 < x.num) (h : RatIs p q (mkRat (x.den : Int) x.num.toNat)) : RatIs p q x⁻¹ := by
  have e : mkRat (x.den : Int) x.num.toNat = x⁻¹ := by
    rw [Rat.inv_def, ← Rat.divInt_ofNat, show ((x.num.toNat : Nat) : Int) = x.num by omega]
  rwa [e] at h

set_option maxRecDepth 100000 in
set_option maxHeartbeats 4000000 in
theorem addR {w0 w : World} {T : List Res} {H D : List Nat} {l : List Ent} {b : Nat} {q r : Nm} (hS : St w0 w (bag H D (⟨b, 0, q⟩ :: ⟨b, 2, r⟩ :: l) :: T)) {b_x : Nat} {xa xb : Nm} {vx : Rat} (mxa : (⟨b_x, 0, xa⟩ : Ent) ∈ (⟨b, 0, q⟩ : Ent) :: ⟨b, 2, r⟩ :: l) (mxb : (⟨b_x, 2, xb⟩ : Ent) ∈ (⟨b, 0, q⟩ : Ent) :: ⟨b, 2, r⟩ :: l) {b_y : Nat} {ya yb : Nm} {vy : Rat} (mya : (⟨b_y, 0, ya⟩ : Ent) ∈ (⟨b, 0, q⟩ : Ent) :: ⟨b, 2, r⟩ :: l) (myb : (⟨b_y, 2, yb⟩ : Ent) ∈ (⟨b, 0, q⟩ : Ent) :: ⟨b, 2, r⟩ :: l) (hx : RatIs xa xb vx) (hy : RatIs ya yb vy) (g0 : -9223372036854775808 < vx.num * (vy.den : Int)) (g1 : vx.num * (vy.den : Int) < 9223372036854775808) (g2 : -9223372036854775808 < vy.num * (vx.den : Int)) (g3 : vy.num * (vx.den : Int) < 9223372036854775808) (g4 : (vx.den : Int) * (vy.den : Int) < 18446744073709551616) :
    Calls Try.prog 22 #[.pointer (some ⟨b, 0, none⟩), .pointer (some ⟨b_x, 0, none⟩), .pointer (some ⟨b_y, 0, none⟩)] w fun e w' => ∃ r : B2, RatIs r.q r.r (vx + vy) ∧ e = .returned (.pointer (some ⟨b, 0, none⟩)) ∧ St w0 w' (bag r.H r.D (⟨b, 0, r.q⟩ :: ⟨b, 2, r.r⟩ :: l) :: T) := by
  have dx := vx.den_pos
  have dy := vy.den_pos
  have nx : vx.num.natAbs ≤ (vx.num * (vy.den : Int)).natAbs := by rw [Int.natAbs_mul]; exact Nat.le_mul_of_pos_right _ (by omega)
  have ny : vy.num.natAbs ≤ (vy.num * (vx.den : Int)).natAbs := by rw [Int.natAbs_mul]; exact Nat.le_mul_of_pos_right _ (by omega)
  have ex : (vx.den : Int) ≤ (vx.den : Int) * (vy.den : Int) := by have := Int.mul_le_mul_of_nonneg_left (show (1 : Int) ≤ vy.den by omega) (show 0 ≤ (vx.den : Int) by omega); rwa [Int.mul_one] at this
  have ey : (vy.den : Int) ≤ (vx.den : Int) * (vy.den : Int) := by have := Int.mul_le_mul_of_nonneg_right (show (1 : Int) ≤ vx.den by omega) (show 0 ≤ (vy.den : Int) by omega); rwa [Int.one_mul] at this
  have sx : Sm vx.num := sm_of (by omega) (by omega)
  have sy : Sm vy.num := sm_of (by omega) (by omega)
  have tx : Sm (vx.den : Int) := sm_of (by omega) (by omega)
  have ty : Sm (vy.den : Int) := sm_of (by omega) (by omega)
  refine calls_tr Try.func22 Try.ntmps22 rfl rfl hS ?_
  refine tr_seq ?_
  refine tr_region ?_
  refine tl_step rfl (oj_val (y_assign fe_c) ?_)
  refine tl_nil ?_
  refine tx_then ?_
  refine tr_seq ?_
  refine tr_region ?_
  refine tl_step rfl (oj_allocN 0 Try.zeroValue35 rfl (fun b_i H_i => ?_))
  refine tl_step rfl (oj_val (y_move (fe_t rfl)) ?_)
  refine tl_step rfl (oj_call2 Try.call33 fe_f (fel_cons (fe_t rfl) fel_nil) (fun w' hS => lift 0 hS rfl (fun T hS => numR hS (List.mem_cons_of_mem _ mxa) (List.mem_cons_of_mem _ mxb) hx sx)) (fun r1 hr1 => ?_))
  refine tl_step rfl (oj_val (y_move (fe_t rfl)) ?_)
  refine tl_step rfl (oj_call2 Try.call34 fe_f (fel_cons (fe_t rfl) fel_nil) (fun w' hS => lift 0 hS rfl (fun T hS => denomR hS (List.mem_cons_of_mem _ (List.mem_cons_of_mem _ mya)) (List.mem_cons_of_mem _ (List.mem_cons_of_mem _ myb)) hy ty)) (fun r2 hr2 => ?_))
  refine tl_step rfl (oj_call2 Try.call46 fe_f (fel_cons (fe_t rfl) (fel_cons (fe_t rfl) (fel_cons (fe_t rfl) fel_nil))) (fun w' hS => lift1 (p := fun n => n.is (((vx).num) * (((vy).den : Int)))) 0 2 hS rfl rfl (fun T l' hm hS => mulB hS (hm _ (pget_mem 1 rfl)) (hm _ (pget_mem 0 rfl)) hr1 hr2 (Nat.le_trans (nm_sm hr1 (sm_of (by omega) (by omega))) (by decide)) (Nat.le_trans (nm_sm hr2 (sm_of (by omega) (by omega))) (by decide)))) (fun r3 hr3 => ?_))
  refine tl_step rfl (oj_allocN 0 Try.zeroValue35 rfl (fun b_j H_j => ?_))
  refine tl_step rfl (oj_val (y_move (fe_t rfl)) ?_)
  refine tl_step rfl (oj_call2 Try.call33 fe_f (fel_cons (fe_t rfl) fel_nil) (fun w' hS => lift 0 hS rfl (fun T hS => numR hS (List.mem_cons_of_mem _ (List.mem_cons_of_mem _ (List.mem_cons_of_mem _ (List.mem_cons_of_mem _ mya)))) (List.mem_cons_of_mem _ (List.mem_cons_of_mem _ (List.mem_cons_of_mem _ (List.mem_cons_of_mem _ myb)))) hy sy)) (fun r4 hr4 => ?_))
  refine tl_step rfl (oj_val (y_move (fe_t rfl)) ?_)
  refine tl_step rfl (oj_call2 Try.call34 fe_f (fel_cons (fe_t rfl) fel_nil) (fun w' hS => lift 0 hS rfl (fun T hS => denomR hS (List.mem_cons_of_mem _ (List.mem_cons_of_mem _ (List.mem_cons_of_mem _ (List.mem_cons_of_mem _ (List.mem_cons_of_mem _ mxa))))) (List.mem_cons_of_mem _ (List.mem_cons_of_mem _ (List.mem_cons_of_mem _ (List.mem_cons_of_mem _ (List.mem_cons_of_mem _ mxb))))) hx tx)) (fun r5 hr5 => ?_))
  refine tl_step rfl (oj_call2 Try.call46 fe_f (fel_cons (fe_t rfl) (fel_cons (fe_t rfl) (fel_cons (fe_t rfl) fel_nil))) (fun w' hS => lift1 (p := fun n => n.is (((vy).num) * (((vx).den : Int)))) 0 2 hS rfl rfl (fun T l' hm hS => mulB hS (hm _ (pget_mem 1 rfl)) (hm _ (pget_mem 0 rfl)) hr4 hr5 (Nat.le_trans (nm_sm hr4 (sm_of (by omega) (by omega))) (by decide)) (Nat.le_trans (nm_sm hr5 (sm_of (by omega) (by omega))) (by decide)))) (fun r6 hr6 => ?_))
  refine tl_step rfl (oj_val (y_assign (fe_t rfl)) ?_)
  refine tl_step rfl (oj_val (y_assign (fe_t rfl)) ?_)
  refine tl_nil ?_
  refine tx_then ?_
  refine tr_seq ?_
  refine tr_region ?_
  refine tl_step rfl (oj_val (y_move (fe_t rfl)) ?_)
  refine tl_step rfl (oj_val (y_move (fe_t rfl)) ?_)
  refine tl_step rfl (oj_val (y_move (fe_t rfl)) ?_)
  refine tl_step rfl (oj_val (y_move (fe_t rfl)) ?_)
  refine tl_step rfl (oj_call2 Try.call41 fe_f (fel_cons (fe_t rfl) (fel_cons (fe_t rfl) (fel_cons (fe_t rfl) fel_nil))) (fun w' hS => lift1 (p := fun n => n.is ((((vx).num) * (((vy).den : Int))) + (((vy).num) * (((vx).den : Int))))) 0 5 hS rfl rfl (fun T l' hm hS => addB hS (hm _ (pget_mem 5 rfl)) (hm _ (pget_mem 2 rfl)) hr3 hr6 (sm_of (by omega) (by omega)) (sm_of (by omega) (by omega)))) (fun r7 hr7 => ?_))
  refine tl_step rfl (oj_allocN 0 Try.zeroValue35 rfl (fun b_k H_k => ?_))
  refine tl_step rfl (oj_val (y_move (fe_t rfl)) ?_)
  refine tl_step rfl (oj_call2 Try.call34 fe_f (fel_cons (fe_t rfl) fel_nil) (fun w' hS => lift 0 hS rfl (fun T hS => denomR hS (List.mem_cons_of_mem _ (List.mem_cons_of_mem _ (List.mem_cons_of_mem _ (List.mem_cons_of_mem _ (List.mem_cons_of_mem _ (List.mem_cons_of_mem _ (List.mem_cons_of_mem _ mxa))))))) (List.mem_cons_of_mem _ (List.mem_cons_of_mem _ (List.mem_cons_of_mem _ (List.mem_cons_of_mem _ (List.mem_cons_of_mem _ (List.mem_cons_of_mem _ (List.mem_cons_of_mem _ mxb))))))) hx tx)) (fun r8 hr8 => ?_))
  refine tl_step rfl (oj_val (y_move (fe_t rfl)) ?_)
  refine tl_step rfl (oj_call2 Try.call34 fe_f (fel_cons (fe_t rfl) fel_nil) (fun w' hS => lift 0 hS rfl (fun T hS => denomR hS (List.mem_cons_of_mem _ (List.mem_cons_of_mem _ (List.mem_cons_of_mem _ (List.mem_cons_of_mem _ (List.mem_cons_of_mem _ (List.mem_cons_of_mem _ (List.mem_cons_of_mem _ (List.mem_cons_of_mem _ mya)))))))) (List.mem_cons_of_mem _ (List.mem_cons_of_mem _ (List.mem_cons_of_mem _ (List.mem_cons_of_mem _ (List.mem_cons_of_mem _ (List.mem_cons_of_mem _ (List.mem_cons_of_mem _ (List.mem_cons_of_mem _ myb)))))))) hy ty)) (fun r9 hr9 => ?_))
  refine tl_step rfl (oj_call2 Try.call46 fe_f (fel_cons (fe_t rfl) (fel_cons (fe_t rfl) (fel_cons (fe_t rfl) fel_nil))) (fun w' hS => lift1 (p := fun n => n.is ((((vx).den : Int)) * (((vy).den : Int)))) 0 2 hS rfl rfl (fun T l' hm hS => mulB hS (hm _ (pget_mem 1 rfl)) (hm _ (pget_mem 0 rfl)) hr8 hr9 (Nat.le_trans (nm_sm hr8 (sm_of (by omega) (by omega))) (by decide)) (Nat.le_trans (nm_sm hr9 (sm_of (by omega) (by omega))) (by decide)))) (fun r10 hr10 => ?_))
  refine tl_step rfl (oj_call2 Try.call106 fe_f (fel_cons (fe_t rfl) (fel_cons (fe_t rfl) (fel_cons (fe_t rfl) fel_nil))) (fun w' hS => lift2 (p := fun m n => RatIs m n (mkRat ((((vx).num) * (((vy).den : Int))) + (((vy).num) * (((vx).den : Int)))) ((((vx).den : Int)) * (((vy).den : Int))).toNat)) 0 9 10 hS rfl rfl rfl rfl (fun T l' hm hS => setfracR hS (hm _ (pget_mem 8 rfl)) (hm _ (pget_mem 2 rfl)) hr7 hr10 (by omega) (by omega) (Int.mul_pos (by omega) (by omega)) g4)) (fun r11 hr11 => ?_))
  refine tl_step rfl (oj_val (y_assign (fe_t rfl)) ?_)
  refine tl_nil ?_
  refine tx_then ?_
  refine tr_ret ?_
  refine tx_ret (res1 Try.results22 (rok_t rfl)) (fun w' hS => ?_)
  have hS := St.bagpick (es := [_, _, _, _, _, _, _, _, _, _, _]) 0 hS rfl [9, 10] rfl (by decide)
  have hS' : St w0 w' (bag _ _ ((⟨b, 0, _⟩ : Ent) :: (⟨b, 2, _⟩ : Ent) :: l) :: T) := hS
  exact finR hS' (rat_add hr11)

set_option maxRecDepth 100000 in
set_option maxHeartbeats 4000000 in
theorem mulR {w0 w : World} {T : List Res} {H D : List Nat} {l : List Ent} {b : Nat} {q r : Nm} (hS : St w0 w (bag H D (⟨b, 0, q⟩ :: ⟨b, 2, r⟩ :: l) :: T)) {b_x : Nat} {xa xb : Nm} {vx : Rat} (mxa : (⟨b_x, 0, xa⟩ : Ent) ∈ (⟨b, 0, q⟩ : Ent) :: ⟨b, 2, r⟩ :: l) (mxb : (⟨b_x, 2, xb⟩ : Ent) ∈ (⟨b, 0, q⟩ : Ent) :: ⟨b, 2, r⟩ :: l) {b_y : Nat} {ya yb : Nm} {vy : Rat} (mya : (⟨b_y, 0, ya⟩ : Ent) ∈ (⟨b, 0, q⟩ : Ent) :: ⟨b, 2, r⟩ :: l) (myb : (⟨b_y, 2, yb⟩ : Ent) ∈ (⟨b, 0, q⟩ : Ent) :: ⟨b, 2, r⟩ :: l) (hx : RatIs xa xb vx) (hy : RatIs ya yb vy) (g0 : -18446744073709551616 < vx.num * vy.num) (g1 : vx.num * vy.num < 18446744073709551616) (sx : Sm vx.num) (sy : Sm vy.num) (g4 : (vx.den : Int) * (vy.den : Int) < 18446744073709551616) :
    Calls Try.prog 23 #[.pointer (some ⟨b, 0, none⟩), .pointer (some ⟨b_x, 0, none⟩), .pointer (some ⟨b_y, 0, none⟩)] w fun e w' => ∃ r : B2, RatIs r.q r.r (vx * vy) ∧ e = .returned (.pointer (some ⟨b, 0, none⟩)) ∧ St w0 w' (bag r.H r.D (⟨b, 0, r.q⟩ :: ⟨b, 2, r.r⟩ :: l) :: T) := by
  have dx := vx.den_pos
  have dy := vy.den_pos
  have ex : (vx.den : Int) ≤ (vx.den : Int) * (vy.den : Int) := by have := Int.mul_le_mul_of_nonneg_left (show (1 : Int) ≤ vy.den by omega) (show 0 ≤ (vx.den : Int) by omega); rwa [Int.mul_one] at this
  have ey : (vy.den : Int) ≤ (vx.den : Int) * (vy.den : Int) := by have := Int.mul_le_mul_of_nonneg_right (show (1 : Int) ≤ vx.den by omega) (show 0 ≤ (vy.den : Int) by omega); rwa [Int.one_mul] at this
  have tx : Sm (vx.den : Int) := sm_of (by omega) (by omega)
  have ty : Sm (vy.den : Int) := sm_of (by omega) (by omega)
  refine calls_tr Try.func23 Try.ntmps23 rfl rfl hS ?_
  refine tr_seq ?_
  refine tr_region ?_
  refine tl_step rfl (oj_val (y_assign fe_c) ?_)
  refine tl_nil ?_
  refine tx_then ?_
  refine tr_seq ?_
  refine tr_region ?_
  refine tl_step rfl (oj_val (y_move (fe_t rfl)) ?_)
  refine tl_step rfl (oj_allocN 0 Try.zeroValue35 rfl (fun b_i H_i => ?_))
  refine tl_step rfl (oj_val (y_move (fe_t rfl)) ?_)
  refine tl_step rfl (oj_call2 Try.call33 fe_f (fel_cons (fe_t rfl) fel_nil) (fun w' hS => lift 0 hS rfl (fun T hS => numR hS (List.mem_cons_of_mem _ mxa) (List.mem_cons_of_mem _ mxb) hx sx)) (fun r1 hr1 => ?_))
  refine tl_step rfl (oj_val (y_move (fe_t rfl)) ?_)
  refine tl_step rfl (oj_call2 Try.call33 fe_f (fel_cons (fe_t rfl) fel_nil) (fun w' hS => lift 0 hS rfl (fun T hS => numR hS (List.mem_cons_of_mem _ (List.mem_cons_of_mem _ mya)) (List.mem_cons_of_mem _ (List.mem_cons_of_mem _ myb)) hy sy)) (fun r2 hr2 => ?_))
  refine tl_step rfl (oj_call2 Try.call46 fe_f (fel_cons (fe_t rfl) (fel_cons (fe_t rfl) (fel_cons (fe_t rfl) fel_nil))) (fun w' hS => lift1 (p := fun n => n.is (((vx).num) * ((vy).num))) 0 2 hS rfl rfl (fun T l' hm hS => mulB hS (hm _ (pget_mem 1 rfl)) (hm _ (pget_mem 0 rfl)) hr1 hr2 (Nat.le_trans (nm_sm hr1 sx) (by decide)) (Nat.le_trans (nm_sm hr2 sy) (by decide)))) (fun r3 hr3 => ?_))
  refine tl_step rfl (oj_allocN 0 Try.zeroValue35 rfl (fun b_j H_j => ?_))
  refine tl_step rfl (oj_val (y_move (fe_t rfl)) ?_)
  refine tl_step rfl (oj_call2 Try.call34 fe_f (fel_cons (fe_t rfl) fel_nil) (fun w' hS => lift 0 hS rfl (fun T hS => denomR hS (List.mem_cons_of_mem _ (List.mem_cons_of_mem _ (List.mem_cons_of_mem _ (List.mem_cons_of_mem _ mxa)))) (List.mem_cons_of_mem _ (List.mem_cons_of_mem _ (List.mem_cons_of_mem _ (List.mem_cons_of_mem _ mxb)))) hx tx)) (fun r4 hr4 => ?_))
  refine tl_step rfl (oj_val (y_move (fe_t rfl)) ?_)
  refine tl_step rfl (oj_call2 Try.call34 fe_f (fel_cons (fe_t rfl) fel_nil) (fun w' hS => lift 0 hS rfl (fun T hS => denomR hS (List.mem_cons_of_mem _ (List.mem_cons_of_mem _ (List.mem_cons_of_mem _ (List.mem_cons_of_mem _ (List.mem_cons_of_mem _ mya))))) (List.mem_cons_of_mem _ (List.mem_cons_of_mem _ (List.mem_cons_of_mem _ (List.mem_cons_of_mem _ (List.mem_cons_of_mem _ myb))))) hy ty)) (fun r5 hr5 => ?_))
  refine tl_step rfl (oj_call2 Try.call46 fe_f (fel_cons (fe_t rfl) (fel_cons (fe_t rfl) (fel_cons (fe_t rfl) fel_nil))) (fun w' hS => lift1 (p := fun n => n.is ((((vx).den : Int)) * (((vy).den : Int)))) 0 2 hS rfl rfl (fun T l' hm hS => mulB hS (hm _ (pget_mem 1 rfl)) (hm _ (pget_mem 0 rfl)) hr4 hr5 (Nat.le_trans (nm_sm hr4 (sm_of (by omega) (by omega))) (by decide)) (Nat.le_trans (nm_sm hr5 (sm_of (by omega) (by omega))) (by decide)))) (fun r6 hr6 => ?_))
  refine tl_step rfl (oj_call2 Try.call106 fe_f (fel_cons (fe_t rfl) (fel_cons (fe_t rfl) (fel_cons (fe_t rfl) fel_nil))) (fun w' hS => lift2 (p := fun m n => RatIs m n (mkRat (((vx).num) * ((vy).num)) ((((vx).den : Int)) * (((vy).den : Int))).toNat)) 0 6 7 hS rfl rfl rfl rfl (fun T l' hm hS => setfracR hS (hm _ (pget_mem 5 rfl)) (hm _ (pget_mem 2 rfl)) hr3 hr6 g0 g1 (Int.mul_pos (by omega) (by omega)) g4)) (fun r7 hr7 => ?_))
  refine tl_step rfl (oj_val (y_assign (fe_t rfl)) ?_)
  refine tl_nil ?_
  refine tx_then ?_
  refine tr_ret ?_
  refine tx_ret (res1 Try.results23 (rok_t rfl)) (fun w' hS => ?_)
  have hS := St.bagpick (es := [_, _, _, _, _, _, _, _]) 0 hS rfl [6, 7] rfl (by decide)
  have hS' : St w0 w' (bag _ _ ((⟨b, 0, _⟩ : Ent) :: (⟨b, 2, _⟩ : Ent) :: l) :: T) := hS
  exact finR hS' (rat_mul hr7)

end Go.Proofs.Ytcpdelkamckmfaa.Big
