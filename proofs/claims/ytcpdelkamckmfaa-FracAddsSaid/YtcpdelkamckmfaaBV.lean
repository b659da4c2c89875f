/- The Int library, numbers held together: fractions: Neg, Set, Inv, Sub, NewRat, Quo, Sign, Cmp. -/
import Derived.Test.YtcpdelkamckmfaaBT
namespace Go.Proofs.Ytcpdelkamckmfaa.Big
open Go.RowKit Go.Proofs.Ytcpdelkamckmfaa.E

set_option maxRecDepth 100000 in
set_option maxHeartbeats 4000000 in
theorem negR {w0 w : World} {T : List Res} {H D : List Nat} {l : List Ent} {b : Nat} {q r : Nm} (hS : St w0 w (bag H D (⟨b, 0, q⟩ :: ⟨b, 2, r⟩ :: l) :: T)) {b_x : Nat} {xa xb : Nm} {vx : Rat} (mxa : (⟨b_x, 0, xa⟩ : Ent) ∈ (⟨b, 0, q⟩ : Ent) :: ⟨b, 2, r⟩ :: l) (mxb : (⟨b_x, 2, xb⟩ : Ent) ∈ (⟨b, 0, q⟩ : Ent) :: ⟨b, 2, r⟩ :: l) (hx : RatIs xa xb vx) (g0 : -18446744073709551616 < vx.num) (g1 : vx.num < 18446744073709551616) (g4 : (vx.den : Int) < 18446744073709551616) :
    Calls Try.prog 165 #[.pointer (some ⟨b, 0, none⟩), .pointer (some ⟨b_x, 0, none⟩)] w fun e w' => ∃ r : B2, RatIs r.q r.r (-vx) ∧ e = .returned (.pointer (some ⟨b, 0, none⟩)) ∧ St w0 w' (bag r.H r.D (⟨b, 0, r.q⟩ :: ⟨b, 2, r.r⟩ :: l) :: T) := by
  have dx := vx.den_pos
  have sx : Sm vx.num := sm_of (by omega) (by omega)
  have tx : Sm (vx.den : Int) := sm_of (by omega) (by omega)
  refine calls_tr Try.func165 Try.ntmps165 rfl rfl hS ?_
  refine tr_seq ?_
  refine tr_region ?_
  refine tl_step rfl (oj_val (y_assign fe_c) ?_)
  refine tl_nil ?_
  refine tx_then ?_
  refine tr_seq ?_
  refine tr_region ?_
  refine tl_step rfl (oj_val (y_move (fe_t rfl)) ?_)
  refine tl_step rfl (oj_allocN 0 Try.zeroValue35 rfl (fun b_i H_i => ?_))
  refine tl_step rfl (oj_val (y_move (fe_t rfl)) ?_)
  refine tl_step rfl (oj_val (y_nilCheck (fe_t rfl)) ?_)
  refine tl_step rfl (oj_val (y_fieldAddr (td := 35) Try.underlying37 rfl rfl Try.sizeOf35 (o' := 0) rfl (fe_t rfl)) ?_)
  refine tl_step rfl (oj_call2 Try.call35 fe_f (fel_cons (fe_t rfl) (fel_cons (fe_t rfl) fel_nil)) (fun w' hS => lift1 (p := fun n => n.is (-(vx.num))) 0 0 hS rfl rfl (fun T l' hm hS => negB hS (hm _ (List.mem_cons_of_mem _ mxa)) hx.1 (Nat.le_trans (nm_sm hx.1 sx) (by decide)))) (fun r1 hr1 => ?_))
  refine tl_step rfl (oj_val (y_move (fe_t rfl)) ?_)
  refine tl_step rfl (oj_call2 Try.call34 fe_f (fel_cons (fe_t rfl) fel_nil) (fun w' hS => lift 0 hS rfl (fun T hS => denomR hS (List.mem_cons_of_mem _ mxa) (List.mem_cons_of_mem _ mxb) hx tx)) (fun r2 hr2 => ?_))
  refine tl_step rfl (oj_call2 Try.call106 fe_f (fel_cons (fe_t rfl) (fel_cons (fe_t rfl) (fel_cons (fe_t rfl) fel_nil))) (fun w' hS => lift2 (p := fun m n => RatIs m n (mkRat (-(vx.num)) (((vx).den : Int)).toNat)) 0 2 3 hS rfl rfl rfl rfl (fun T l' hm hS => setfracR hS (hm _ (pget_mem 1 rfl)) (hm _ (pget_mem 0 rfl)) hr1 hr2 (by omega) (by omega) (by omega) g4)) (fun r3 hr3 => ?_))
  refine tl_step rfl (oj_val (y_assign (fe_t rfl)) ?_)
  refine tl_nil ?_
  refine tx_then ?_
  refine tr_ret ?_
  refine tx_ret (res1 Try.results165 (rok_t rfl)) (fun w' hS => ?_)
  have hS := St.bagpick (es := [_, _, _, _]) 0 hS rfl [2, 3] rfl (by decide)
  have hS' : St w0 w' (bag _ _ ((⟨b, 0, _⟩ : Ent) :: (⟨b, 2, _⟩ : Ent) :: l) :: T) := hS
  exact finR hS' (rat_neg hr3)

set_option maxRecDepth 100000 in
set_option maxHeartbeats 4000000 in
theorem setR {w0 w : World} {T : List Res} {H D : List Nat} {l : List Ent} {b : Nat} {q r : Nm} (hS : St w0 w (bag H D (⟨b, 0, q⟩ :: ⟨b, 2, r⟩ :: l) :: T)) {b_x : Nat} {xa xb : Nm} {vx : Rat} (mxa : (⟨b_x, 0, xa⟩ : Ent) ∈ (⟨b, 0, q⟩ : Ent) :: ⟨b, 2, r⟩ :: l) (mxb : (⟨b_x, 2, xb⟩ : Ent) ∈ (⟨b, 0, q⟩ : Ent) :: ⟨b, 2, r⟩ :: l) (hx : RatIs xa xb vx) (g0 : -18446744073709551616 < vx.num) (g1 : vx.num < 18446744073709551616) (g4 : (vx.den : Int) < 18446744073709551616) :
    Calls Try.prog 148 #[.pointer (some ⟨b, 0, none⟩), .pointer (some ⟨b_x, 0, none⟩)] w fun e w' => ∃ r : B2, RatIs r.q r.r (vx) ∧ e = .returned (.pointer (some ⟨b, 0, none⟩)) ∧ St w0 w' (bag r.H r.D (⟨b, 0, r.q⟩ :: ⟨b, 2, r.r⟩ :: l) :: T) := by
  have dx := vx.den_pos
  have sx : Sm vx.num := sm_of (by omega) (by omega)
  have tx : Sm (vx.den : Int) := sm_of (by omega) (by omega)
  refine calls_tr Try.func148 Try.ntmps148 rfl rfl hS ?_
  refine tr_seq ?_
  refine tr_region ?_
  refine tl_step rfl (oj_val (y_assign fe_c) ?_)
  refine tl_nil ?_
  refine tx_then ?_
  refine tr_seq ?_
  refine tr_region ?_
  refine tl_step rfl (oj_val (y_move (fe_t rfl)) ?_)
  refine tl_step rfl (oj_val (y_move (fe_t rfl)) ?_)
  refine tl_step rfl (oj_call2 Try.call33 fe_f (fel_cons (fe_t rfl) fel_nil) (fun w' hS => lift 0 hS rfl (fun T hS => numR hS mxa mxb hx sx)) (fun r1 hr1 => ?_))
  refine tl_step rfl (oj_val (y_move (fe_t rfl)) ?_)
  refine tl_step rfl (oj_call2 Try.call34 fe_f (fel_cons (fe_t rfl) fel_nil) (fun w' hS => lift 0 hS rfl (fun T hS => denomR hS (List.mem_cons_of_mem _ mxa) (List.mem_cons_of_mem _ mxb) hx tx)) (fun r2 hr2 => ?_))
  refine tl_step rfl (oj_call2 Try.call106 fe_f (fel_cons (fe_t rfl) (fel_cons (fe_t rfl) (fel_cons (fe_t rfl) fel_nil))) (fun w' hS => lift2 (p := fun m n => RatIs m n (mkRat ((vx).num) (((vx).den : Int)).toNat)) 0 2 3 hS rfl rfl rfl rfl (fun T l' hm hS => setfracR hS (hm _ (pget_mem 1 rfl)) (hm _ (pget_mem 0 rfl)) hr1 hr2 g0 g1 (by omega) g4)) (fun r3 hr3 => ?_))
  refine tl_step rfl (oj_val (y_assign (fe_t rfl)) ?_)
  refine tl_nil ?_
  refine tx_then ?_
  refine tr_ret ?_
  refine tx_ret (res1 Try.results148 (rok_t rfl)) (fun w' hS => ?_)
  have hS := St.bagpick (es := [_, _, _, _]) 0 hS rfl [2, 3] rfl (by decide)
  have hS' : St w0 w' (bag _ _ ((⟨b, 0, _⟩ : Ent) :: (⟨b, 2, _⟩ : Ent) :: l) :: T) := hS
  exact finR hS' (rat_set hr3)

set_option maxRecDepth 100000 in
set_option maxHeartbeats 4000000 in
theorem invR {w0 w : World} {T : List Res} {H D : List Nat} {l : List Ent} {b : Nat} {q r : Nm} (hS : St w0 w (bag H D (⟨b, 0, q⟩ :: ⟨b, 2, r⟩ :: l) :: T)) {b_x : Nat} {xa xb : Nm} {vx : Rat} (mxa : (⟨b_x, 0, xa⟩ : Ent) ∈ (⟨b, 0, q⟩ : Ent) :: ⟨b, 2, r⟩ :: l) (mxb : (⟨b_x, 2, xb⟩ : Ent) ∈ (⟨b, 0, q⟩ : Ent) :: ⟨b, 2, r⟩ :: l) (hx : RatIs xa xb vx) (g0 : -18446744073709551616 < vx.num) (g1 : vx.num < 18446744073709551616) (g4 : (vx.den : Int) < 18446744073709551616) (hp : 0 < vx.num) :
    Calls Try.prog 179 #[.pointer (some ⟨b, 0, none⟩), .pointer (some ⟨b_x, 0, none⟩)] w fun e w' => ∃ r : B2, RatIs r.q r.r (vx⁻¹) ∧ e = .returned (.pointer (some ⟨b, 0, none⟩)) ∧ St w0 w' (bag r.H r.D (⟨b, 0, r.q⟩ :: ⟨b, 2, r.r⟩ :: l) :: T) := by
  have dx := vx.den_pos
  have sx : Sm vx.num := sm_of (by omega) (by omega)
  have tx : Sm (vx.den : Int) := sm_of (by omega) (by omega)
  refine calls_tr Try.func179 Try.ntmps179 rfl rfl hS ?_
  refine tr_seq ?_
  refine tr_region ?_
  refine tl_step rfl (oj_val (y_assign fe_c) ?_)
  refine tl_nil ?_
  refine tx_then ?_
  refine tr_seq ?_
  refine tr_region ?_
  refine tl_step rfl (oj_val (y_move (fe_t rfl)) ?_)
  refine tl_step rfl (oj_val (y_move (fe_t rfl)) ?_)
  refine tl_step rfl (oj_call2 Try.call34 fe_f (fel_cons (fe_t rfl) fel_nil) (fun w' hS => lift 0 hS rfl (fun T hS => denomR hS mxa mxb hx tx)) (fun r1 hr1 => ?_))
  refine tl_step rfl (oj_val (y_move (fe_t rfl)) ?_)
  refine tl_step rfl (oj_call2 Try.call33 fe_f (fel_cons (fe_t rfl) fel_nil) (fun w' hS => lift 0 hS rfl (fun T hS => numR hS (List.mem_cons_of_mem _ mxa) (List.mem_cons_of_mem _ mxb) hx sx)) (fun r2 hr2 => ?_))
  refine tl_step rfl (oj_call2 Try.call106 fe_f (fel_cons (fe_t rfl) (fel_cons (fe_t rfl) (fel_cons (fe_t rfl) fel_nil))) (fun w' hS => lift2 (p := fun m n => RatIs m n (mkRat (((vx).den : Int)) ((vx).num).toNat)) 0 2 3 hS rfl rfl rfl rfl (fun T l' hm hS => setfracR hS (hm _ (pget_mem 1 rfl)) (hm _ (pget_mem 0 rfl)) hr1 hr2 (by omega) (by omega) hp g1)) (fun r3 hr3 => ?_))
  refine tl_step rfl (oj_val (y_assign (fe_t rfl)) ?_)
  refine tl_nil ?_
  refine tx_then ?_
  refine tr_ret ?_
  refine tx_ret (res1 Try.results179 (rok_t rfl)) (fun w' hS => ?_)
  have hS := St.bagpick (es := [_, _, _, _]) 0 hS rfl [2, 3] rfl (by decide)
  have hS' : St w0 w' (bag _ _ ((⟨b, 0, _⟩ : Ent) :: (⟨b, 2, _⟩ : Ent) :: l) :: T) := hS
  exact finR hS' (rat_inv hp hr3)

set_option maxRecDepth 100000 in
set_option maxHeartbeats 4000000 in
theorem subR {w0 w : World} {T : List Res} {H D : List Nat} {l : List Ent} {b : Nat} {q r : Nm} (hS : St w0 w (bag H D (⟨b, 0, q⟩ :: ⟨b, 2, r⟩ :: l) :: T)) {b_x : Nat} {xa xb : Nm} {vx : Rat} (mxa : (⟨b_x, 0, xa⟩ : Ent) ∈ (⟨b, 0, q⟩ : Ent) :: ⟨b, 2, r⟩ :: l) (mxb : (⟨b_x, 2, xb⟩ : Ent) ∈ (⟨b, 0, q⟩ : Ent) :: ⟨b, 2, r⟩ :: l) {b_y : Nat} {ya yb : Nm} {vy : Rat} (mya : (⟨b_y, 0, ya⟩ : Ent) ∈ (⟨b, 0, q⟩ : Ent) :: ⟨b, 2, r⟩ :: l) (myb : (⟨b_y, 2, yb⟩ : Ent) ∈ (⟨b, 0, q⟩ : Ent) :: ⟨b, 2, r⟩ :: l) (hx : RatIs xa xb vx) (hy : RatIs ya yb vy) (g0 : -9223372036854775808 < vx.num * (vy.den : Int)) (g1 : vx.num * (vy.den : Int) < 9223372036854775808) (g2 : -9223372036854775808 < vy.num * (vx.den : Int)) (g3 : vy.num * (vx.den : Int) < 9223372036854775808) (g4 : (vx.den : Int) * (vy.den : Int) < 18446744073709551616) :
    Calls Try.prog 107 #[.pointer (some ⟨b, 0, none⟩), .pointer (some ⟨b_x, 0, none⟩), .pointer (some ⟨b_y, 0, none⟩)] w fun e w' => ∃ r : B2, RatIs r.q r.r (vx - vy) ∧ e = .returned (.pointer (some ⟨b, 0, none⟩)) ∧ St w0 w' (bag r.H r.D (⟨b, 0, r.q⟩ :: ⟨b, 2, r.r⟩ :: l) :: T) := by
  have dx := vx.den_pos
  have dy := vy.den_pos
  have nx : vx.num.natAbs ≤ (vx.num * (vy.den : Int)).natAbs := by rw [Int.natAbs_mul]; exact Nat.le_mul_of_pos_right _ (by omega)
  have ny : vy.num.natAbs ≤ (vy.num * (vx.den : Int)).natAbs := by rw [Int.natAbs_mul]; exact Nat.le_mul_of_pos_right _ (by omega)
  have ex : (vx.den : Int) ≤ (vx.den : Int) * (vy.den : Int) := by have := Int.mul_le_mul_of_nonneg_left (show (1 : Int) ≤ vy.den by omega) (show 0 ≤ (vx.den : Int) by omega); rwa [Int.mul_one] at this
  have ey : (vy.den : Int) ≤ (vx.den : Int) * (vy.den : Int) := by have := Int.mul_le_mul_of_nonneg_right (show (1 : Int) ≤ vx.den by omega) (show 0 ≤ (vy.den : Int) by omega); rwa [Int.one_mul] at this
  have sx : Sm vx.num := sm_of (by omega) (by omega)
  have sy : Sm vy.num := sm_of (by omega) (by omega)
  have tx : Sm (vx.den : Int) := sm_of (by omega) (by omega)
  have ty : Sm (vy.den : Int) := sm_of (by omega) (by omega)
  refine calls_tr Try.func107 Try.ntmps107 rfl rfl hS ?_
  refine tr_seq ?_
  refine tr_region ?_
  refine tl_step rfl (oj_val (y_assign fe_c) ?_)
  refine tl_nil ?_
  refine tx_then ?_
  refine tr_seq ?_
  refine tr_region ?_
  refine tl_step rfl (oj_val (y_move (fe_t rfl)) ?_)
  refine tl_step rfl (oj_val (y_move (fe_t rfl)) ?_)
  refine tl_step rfl (oj_allocR 0 Try.zeroValue37 rfl (fun b_t H_t => ?_))
  refine tl_step rfl (oj_val (y_move (fe_t rfl)) ?_)
  refine tl_step rfl (oj_call2 Try.call165 fe_f (fel_cons (fe_t rfl) (fel_cons (fe_t rfl) fel_nil)) (fun w' hS => lift2 (p := fun m n => RatIs m n (-(vy))) 0 0 1 hS rfl rfl rfl rfl (fun T l' hm hS => negR hS (hm _ (List.mem_cons_of_mem _ (List.mem_cons_of_mem _ mya))) (hm _ (List.mem_cons_of_mem _ (List.mem_cons_of_mem _ myb))) hy (by omega) (by omega) (by omega))) (fun r1 hr1 => ?_))
  refine tl_step rfl (oj_call2 Try.call22 fe_f (fel_cons (fe_t rfl) (fel_cons (fe_t rfl) (fel_cons (fe_t rfl) fel_nil))) (fun w' hS => lift2 (p := fun m n => RatIs m n (vx + (-(vy)))) 0 2 3 hS rfl rfl rfl rfl (fun T l' hm hS => addR hS (hm _ (List.mem_cons_of_mem _ (List.mem_cons_of_mem _ mxa))) (hm _ (List.mem_cons_of_mem _ (List.mem_cons_of_mem _ mxb))) (hm _ (pget_mem 0 rfl)) (hm _ (pget_mem 1 rfl)) hx hr1 (by rw [(neg_nd _).2]; exact g0) (by rw [(neg_nd _).2]; exact g1) (by rw [(neg_nd _).1, Int.neg_mul]; omega) (by rw [(neg_nd _).1, Int.neg_mul]; omega) (by rw [(neg_nd _).2]; exact g4))) (fun r2 hr2 => ?_))
  refine tl_step rfl (oj_val (y_assign (fe_t rfl)) ?_)
  refine tl_nil ?_
  refine tx_then ?_
  refine tr_ret ?_
  refine tx_ret (res1 Try.results107 (rok_t rfl)) (fun w' hS => ?_)
  have hS := St.bagpick (es := [_, _, _, _]) 0 hS rfl [2, 3] rfl (by decide)
  have hS' : St w0 w' (bag _ _ ((⟨b, 0, _⟩ : Ent) :: (⟨b, 2, _⟩ : Ent) :: l) :: T) := hS
  exact finR hS' (by rw [Rat.sub_eq_add_neg]; exact hr2)

set_option maxRecDepth 100000 in
set_option maxHeartbeats 2000000 in
theorem newR {w0 w : World} {T : List Res} {H D : List Nat} {l : List Ent} (hS : St w0 w (bag H D l :: T)) (va vb : Int) (g0 : -9223372036854775808 ≤ va) (g1 : va ≤ 9223372036854775807) (g2 : 0 < vb) (g3 : vb ≤ 9223372036854775807) :
    Calls Try.prog 83 #[.int .i64 va, .int .i64 vb] w fun e w' => ∃ r : BR, RatIs r.q r.r (mkRat va vb.toNat) ∧ e = .returned (.pointer (some ⟨r.b, 0, none⟩)) ∧ St w0 w' (bag r.H r.D (⟨r.b, 0, r.q⟩ :: ⟨r.b, 2, r.r⟩ :: l) :: T) := by
  refine calls_tr Try.func83 Try.ntmps83 rfl rfl hS ?_
  refine tr_seq ?_
  refine tr_region ?_
  refine tl_step rfl (oj_val (y_assign fe_c) ?_)
  refine tl_nil ?_
  refine tx_then ?_
  refine tr_seq ?_
  refine tr_region ?_
  refine tl_step rfl (oj_allocR 0 Try.zeroValue37 rfl (fun b_z H_z => ?_))
  refine tl_step rfl (oj_val (y_move (fe_t rfl)) ?_)
  refine tl_step rfl (oj_call2 Try.call111 fe_f (fel_cons (fe_t rfl) fel_nil) (fun w' hS => lift 0 hS rfl (fun T hS => newB hS va (by omega) (by omega))) (fun r1 hr1 => ?_))
  refine tl_step rfl (oj_val (y_move (fe_t rfl)) ?_)
  refine tl_step rfl (oj_call2 Try.call111 fe_f (fel_cons (fe_t rfl) fel_nil) (fun w' hS => lift 0 hS rfl (fun T hS => newB hS vb (by omega) (by omega))) (fun r2 hr2 => ?_))
  refine tl_step rfl (oj_call2 Try.call106 fe_f (fel_cons (fe_t rfl) (fel_cons (fe_t rfl) (fel_cons (fe_t rfl) fel_nil))) (fun w' hS => lift2 (p := fun m n => RatIs m n (mkRat (va) (vb).toNat)) 0 2 3 hS rfl rfl rfl rfl (fun T l' hm hS => setfracR hS (hm _ (pget_mem 1 rfl)) (hm _ (pget_mem 0 rfl)) hr1 hr2 (by omega) (by omega) (by omega) (by omega))) (fun r3 hr3 => ?_))
  refine tl_step rfl (oj_val (y_assign (fe_t rfl)) ?_)
  refine tl_nil ?_
  refine tx_then ?_
  refine tr_ret ?_
  refine tx_ret (res1 Try.results83 (rok_t rfl)) (fun w' hS => ?_)
  have hS := St.bagpick (es := [_, _, _, _]) 0 hS rfl [2, 3] rfl (by decide)
  have hS' : St w0 w' (bag _ _ ((⟨b_z, 0, _⟩ : Ent) :: (⟨b_z, 2, _⟩ : Ent) :: l) :: T) := hS
  exact finF hS' hr3

theorem inv_nd {x : Rat} (h : 0 < x.num) : (x⁻¹).num = (x.den : Int) ∧ ((x⁻¹).den : Int) = x.num := by
  have hn : x.num ≠ 0 := by omega
  have e : x⁻¹ = mkRat (x.den : Int) x.num.toNat := by
    rw [Rat.inv_def, ← Rat.divInt_ofNat, show ((x.num.toNat : Nat) : Int) = x.num by omega]
  have hc : x.num.toNat.gcd (x.den : Int).natAbs = 1 := by
    have := x.reduced
    rw [show x.num.toNat = x.num.natAbs by omega]
    exact this
  rw [e, Rat.num_mkRat, Rat.den_mkRat, if_neg (by omega), if_neg (by omega), hc]
  simp; omega
set_option maxRecDepth 100000 in
set_option maxHeartbeats 4000000 in
theorem quoR {w0 w : World} {T : List Res} {H D : List Nat} {l : List Ent} {b : Nat} {q r : Nm} (hS : St w0 w (bag H D (⟨b, 0, q⟩ :: ⟨b, 2, r⟩ :: l) :: T)) {b_x : Nat} {xa xb : Nm} {vx : Rat} (mxa : (⟨b_x, 0, xa⟩ : Ent) ∈ (⟨b, 0, q⟩ : Ent) :: ⟨b, 2, r⟩ :: l) (mxb : (⟨b_x, 2, xb⟩ : Ent) ∈ (⟨b, 0, q⟩ : Ent) :: ⟨b, 2, r⟩ :: l) {b_y : Nat} {ya yb : Nm} {vy : Rat} (mya : (⟨b_y, 0, ya⟩ : Ent) ∈ (⟨b, 0, q⟩ : Ent) :: ⟨b, 2, r⟩ :: l) (myb : (⟨b_y, 2, yb⟩ : Ent) ∈ (⟨b, 0, q⟩ : Ent) :: ⟨b, 2, r⟩ :: l) (hx : RatIs xa xb vx) (hy : RatIs ya yb vy) (g0 : -18446744073709551616 < vx.num * (vy.den : Int)) (g1 : vx.num * (vy.den : Int) < 18446744073709551616) (sx : Sm vx.num) (hp : 0 < vy.num) (g4 : (vx.den : Int) * vy.num < 18446744073709551616) (g5 : (vy.den : Int) < 18446744073709551616) :
    Calls Try.prog 149 #[.pointer (some ⟨b, 0, none⟩), .pointer (some ⟨b_x, 0, none⟩), .pointer (some ⟨b_y, 0, none⟩)] w fun e w' => ∃ r : B2, RatIs r.q r.r (vx / vy) ∧ e = .returned (.pointer (some ⟨b, 0, none⟩)) ∧ St w0 w' (bag r.H r.D (⟨b, 0, r.q⟩ :: ⟨b, 2, r.r⟩ :: l) :: T) := by
  have dx := vx.den_pos
  have dy := vy.den_pos
  have ey : vy.num ≤ (vx.den : Int) * vy.num := by have := Int.mul_le_mul_of_nonneg_right (show (1 : Int) ≤ vx.den by omega) (show 0 ≤ vy.num by omega); rwa [Int.one_mul] at this
  have ty : Sm (vy.den : Int) := sm_of (by omega) (by omega)
  obtain ⟨en, ed⟩ := inv_nd hp
  refine calls_tr Try.func149 Try.ntmps149 rfl rfl hS ?_
  refine tr_seq ?_
  refine tr_region ?_
  refine tl_step rfl (oj_val (y_assign fe_c) ?_)
  refine tl_nil ?_
  refine tx_then ?_
  refine tr_seq ?_
  refine tr_region ?_
  refine tl_step rfl (oj_val (y_move (fe_t rfl)) ?_)
  refine tl_step rfl (oj_val (y_move (fe_t rfl)) ?_)
  refine tl_step rfl (oj_allocR 0 Try.zeroValue37 rfl (fun b_t H_t => ?_))
  refine tl_step rfl (oj_val (y_move (fe_t rfl)) ?_)
  refine tl_step rfl (oj_call2 Try.call179 fe_f (fel_cons (fe_t rfl) (fel_cons (fe_t rfl) fel_nil)) (fun w' hS => lift2 (p := fun m n => RatIs m n ((vy)⁻¹)) 0 0 1 hS rfl rfl rfl rfl (fun T l' hm hS => invR hS (hm _ (List.mem_cons_of_mem _ (List.mem_cons_of_mem _ mya))) (hm _ (List.mem_cons_of_mem _ (List.mem_cons_of_mem _ myb))) hy (by omega) (by omega) (by omega) hp)) (fun r1 hr1 => ?_))
  refine tl_step rfl (oj_call2 Try.call23 fe_f (fel_cons (fe_t rfl) (fel_cons (fe_t rfl) (fel_cons (fe_t rfl) fel_nil))) (fun w' hS => lift2 (p := fun m n => RatIs m n (vx * ((vy)⁻¹))) 0 2 3 hS rfl rfl rfl rfl (fun T l' hm hS => mulR hS (hm _ (List.mem_cons_of_mem _ (List.mem_cons_of_mem _ mxa))) (hm _ (List.mem_cons_of_mem _ (List.mem_cons_of_mem _ mxb))) (hm _ (pget_mem 0 rfl)) (hm _ (pget_mem 1 rfl)) hx hr1 (by rw [en]; exact g0) (by rw [en]; exact g1) sx (by rw [en]; exact ty) (by rw [ed]; exact g4))) (fun r2 hr2 => ?_))
  refine tl_step rfl (oj_val (y_assign (fe_t rfl)) ?_)
  refine tl_nil ?_
  refine tx_then ?_
  refine tr_ret ?_
  refine tx_ret (res1 Try.results149 (rok_t rfl)) (fun w' hS => ?_)
  have hS := St.bagpick (es := [_, _, _, _]) 0 hS rfl [2, 3] rfl (by decide)
  have hS' : St w0 w' (bag _ _ ((⟨b, 0, _⟩ : Ent) :: (⟨b, 2, _⟩ : Ent) :: l) :: T) := hS
  exact finR hS' (by rw [Rat.div_def]; exact hr2)

set_option maxRecDepth 100000 in
set_option maxHeartbeats 1000000 in
theorem signR {w0 w : World} {T : List Res} {H D : List Nat} {l : List Ent} (hS : St w0 w (bag H D l :: T)) {b_x : Nat} {xa xb : Nm} {vx : Rat} (mxa : (⟨b_x, 0, xa⟩ : Ent) ∈ l) (mxb : (⟨b_x, 2, xb⟩ : Ent) ∈ l) (hx : RatIs xa xb vx) :
    Calls Try.prog 108 #[.pointer (some ⟨b_x, 0, none⟩)] w fun e w' => ∃ r : BG, True ∧ e = .returned (.int .i64 vx.num.sign) ∧ St w0 w' (bag r.H r.D l :: T) := by
  refine calls_tr Try.func108 Try.ntmps108 rfl rfl hS ?_
  refine tr_seq ?_
  refine tr_region ?_
  refine tl_step rfl (oj_val (y_assign fe_c) ?_)
  refine tl_nil ?_
  refine tx_then ?_
  refine tr_seq ?_
  refine tr_region ?_
  refine tl_step rfl (oj_val (y_move (fe_t rfl)) ?_)
  refine tl_step rfl (oj_val (y_nilCheck (fe_t rfl)) ?_)
  refine tl_step rfl (oj_val (y_fieldAddr (td := 35) Try.underlying37 rfl rfl Try.sizeOf35 (o' := 0) rfl (fe_t rfl)) ?_)
  refine tl_step rfl (oj_callv Try.call117 fe_f (fel_cons (fe_t rfl) fel_nil) (fun w' hS => of_eq (sign_any _ _ _ _ (bag_int hS 0 rfl mxa hx.1))) ?_)
  refine tl_step rfl (oj_val (y_assign (fe_t rfl)) ?_)
  refine tl_nil ?_
  refine tx_then ?_
  refine tr_ret ?_
  refine tx_ret (res1 Try.results108 (rok_t rfl)) (fun w' hS => ?_)
  have hS' : St w0 w' (bag _ _ (l) :: T) := hS
  exact finG hS' (rfl)

set_option maxRecDepth 100000 in
set_option maxHeartbeats 1000000 in
theorem cmpR {w0 w : World} {T : List Res} {H D : List Nat} {l : List Ent} (hS : St w0 w (bag H D l :: T)) {b_x : Nat} {xa xb : Nm} {vx : Rat} (mxa : (⟨b_x, 0, xa⟩ : Ent) ∈ l) (mxb : (⟨b_x, 2, xb⟩ : Ent) ∈ l) {b_y : Nat} {ya yb : Nm} {vy : Rat} (mya : (⟨b_y, 0, ya⟩ : Ent) ∈ l) (myb : (⟨b_y, 2, yb⟩ : Ent) ∈ l) (hx : RatIs xa xb vx) (hy : RatIs ya yb vy) (g0 : -9223372036854775808 < vx.num * (vy.den : Int)) (g1 : vx.num * (vy.den : Int) < 9223372036854775808) (g2 : -9223372036854775808 < vy.num * (vx.den : Int)) (g3 : vy.num * (vx.den : Int) < 9223372036854775808) (g4 : (vx.den : Int) * (vy.den : Int) < 18446744073709551616) :
    Calls Try.prog 24 #[.pointer (some ⟨b_x, 0, none⟩), .pointer (some ⟨b_y, 0, none⟩)] w fun e w' => ∃ r : BG, True ∧ e = .returned (.int .i64 (vx - vy).num.sign) ∧ St w0 w' (bag r.H r.D l :: T) := by
  refine calls_tr Try.func24 Try.ntmps24 rfl rfl hS ?_
  refine tr_seq ?_
  refine tr_region ?_
  refine tl_step rfl (oj_val (y_assign fe_c) ?_)
  refine tl_nil ?_
  refine tx_then ?_
  refine tr_seq ?_
  refine tr_region ?_
  refine tl_step rfl (oj_allocR 0 Try.zeroValue37 rfl (fun b_t H_t => ?_))
  refine tl_step rfl (oj_val (y_move (fe_t rfl)) ?_)
  refine tl_step rfl (oj_val (y_move (fe_t rfl)) ?_)
  refine tl_step rfl (oj_call2 Try.call107 fe_f (fel_cons (fe_t rfl) (fel_cons (fe_t rfl) (fel_cons (fe_t rfl) fel_nil))) (fun w' hS => lift2 (p := fun m n => RatIs m n (vx - vy)) 0 0 1 hS rfl rfl rfl rfl (fun T l' hm hS => subR hS (hm _ (List.mem_cons_of_mem _ (List.mem_cons_of_mem _ mxa))) (hm _ (List.mem_cons_of_mem _ (List.mem_cons_of_mem _ mxb))) (hm _ (List.mem_cons_of_mem _ (List.mem_cons_of_mem _ mya))) (hm _ (List.mem_cons_of_mem _ (List.mem_cons_of_mem _ myb))) hx hy g0 g1 g2 g3 g4)) (fun r1 hr1 => ?_))
  refine tl_step rfl (oj_call2 Try.call108 fe_f (fel_cons (fe_t rfl) fel_nil) (fun w' hS => lift 0 hS rfl (fun T hS => signR hS (pget_mem 0 rfl) (pget_mem 1 rfl) hr1 )) (fun r2 _ => ?_))
  refine tl_step rfl (oj_val (y_assign (fe_t rfl)) ?_)
  refine tl_nil ?_
  refine tx_then ?_
  refine tr_ret ?_
  refine tx_ret (res1 Try.results24 (rok_t rfl)) (fun w' hS => ?_)
  have hS := St.bagpick (es := [_, _]) 0 hS rfl [] rfl (by decide)
  have hS' : St w0 w' (bag _ _ (l) :: T) := hS
  exact finG hS' (rfl)

end Go.Proofs.Ytcpdelkamckmfaa.Big
