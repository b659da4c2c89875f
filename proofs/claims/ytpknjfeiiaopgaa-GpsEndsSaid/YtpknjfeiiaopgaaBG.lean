/- The Int library, numbers held together: QuoRem of numbers of two digits. -/
import Derived.Test.YtpknjfeiiaopgaaBE
import Derived.Test.YtpknjfeiiaopgaaBigU
namespace Go.Proofs.Ytpknjfeiiaopgaa.Big
open Go.RowKit Go.Proofs.Ytpknjfeiiaopgaa.E

theorem qr_lt {x y : Int} (h : x.natAbs < y.natAbs) : x.tdiv y = 0 ∧ x.tmod y = x := by
  have h1 : x.tdiv y = 0 := by
    have h1 : (x.tdiv y).natAbs = x.natAbs / y.natAbs := Int.natAbs_tdiv x y
    rw [Nat.div_eq_of_lt h] at h1
    omega
  refine ⟨h1, ?_⟩
  rw [Int.tmod_def, h1]
  simp
theorem qr_ge {x y : Int} {a c : Bool} (ha : a = true ↔ x < 0) (hc : c = true ↔ y < 0) : sg (!(a == c)) ((x.natAbs : Int) / (y.natAbs : Int)) = x.tdiv y ∧ sg a ((x.natAbs : Int) % (y.natAbs : Int)) = x.tmod y := by
  have h1 : x = sg a (x.natAbs : Int) := by cases a <;> simp [sg] at ha ⊢ <;> omega
  have h2 : y = sg c (y.natAbs : Int) := by cases c <;> simp [sg] at hc ⊢ <;> omega
  generalize hu : (x.natAbs : Int) = u at *
  generalize hv : (y.natAbs : Int) = v at *
  have u0 : 0 ≤ u := by omega
  have v0 : 0 ≤ v := by omega
  rw [h1, h2]
  clear h1 h2 ha hc
  have e1 : u.tdiv v = u / v := Int.tdiv_eq_ediv_of_nonneg u0
  have e2 : u.tmod v = u % v := Int.tmod_eq_emod_of_nonneg u0
  cases a <;> cases c <;> simp [sg, Int.neg_tdiv, Int.tdiv_neg, Int.neg_tmod, Int.tmod_neg, e1, e2]
theorem em_pos {x y : Int} (h : ¬ x.tmod y < 0) : x.tdiv y = x / y ∧ x.tmod y = x % y := by
  have h1 := Int.tmod_def x y
  by_cases hy : y = 0
  · subst hy; simp
  have h2 : (x.tmod y).natAbs < y.natAbs := by rw [Int.natAbs_tmod]; exact Nat.mod_lt _ (by omega)
  have h3 : x % y = x.tmod y := by
    have h4 : x = x.tmod y + y * x.tdiv y := by omega
    conv => lhs; rw [h4]
    rw [Int.add_mul_emod_self_left]
    rcases Int.lt_or_gt_of_ne hy with h5 | h5
    · rw [← Int.emod_neg]
      exact Int.emod_eq_of_lt (by omega) (by omega)
    · exact Int.emod_eq_of_lt (by omega) (by omega)
  refine ⟨?_, h3.symm⟩
  have h4 := Int.emod_def x y
  have h5 : y * (x.tdiv y - x / y) = 0 := by rw [Int.mul_sub]; omega
  rcases Int.mul_eq_zero.1 h5 with h6 | h6 <;> omega
theorem em_neg {x y : Int} (hy : y ≠ 0) (h : x.tmod y < 0) : (y < 0 → x.tdiv y + 1 = x / y ∧ x.tmod y - y = x % y) ∧ (¬ y < 0 → x.tdiv y - 1 = x / y ∧ x.tmod y + y = x % y) := by
  have h1 := Int.tmod_def x y
  have h2 : (x.tmod y).natAbs < y.natAbs := by rw [Int.natAbs_tmod]; exact Nat.mod_lt _ (by omega)
  have h4 := Int.emod_def x y
  constructor
  · intro h5
    have h3 : x % y = x.tmod y - y := by
      have h6 : x = (x.tmod y - y) + y * (x.tdiv y + 1) := by rw [Int.mul_add]; omega
      conv => lhs; rw [h6]
      rw [Int.add_mul_emod_self_left, ← Int.emod_neg]
      exact Int.emod_eq_of_lt (by omega) (by omega)
    refine ⟨?_, h3.symm⟩
    have h7 : y * (x.tdiv y + 1 - x / y) = 0 := by rw [Int.mul_sub, Int.mul_add]; omega
    rcases Int.mul_eq_zero.1 h7 with h6 | h6 <;> omega
  · intro h5
    have h3 : x % y = x.tmod y + y := by
      have h6 : x = (x.tmod y + y) + y * (x.tdiv y - 1) := by rw [Int.mul_sub]; omega
      conv => lhs; rw [h6]
      rw [Int.add_mul_emod_self_left]
      exact Int.emod_eq_of_lt (by omega) (by omega)
    refine ⟨?_, h3.symm⟩
    have h7 : y * (x.tdiv y - 1 - x / y) = 0 := by rw [Int.mul_sub, Int.mul_sub]; omega
    rcases Int.mul_eq_zero.1 h7 with h6 | h6 <;> omega

set_option maxRecDepth 100000 in
set_option maxHeartbeats 4000000 in
theorem quoremS {w0 w : World} {T : List Res} {H D : List Nat} {l : List Ent} {b o b' o' : Nat} {q r : Nm} (hS : St w0 w (bag H D (⟨b, o, q⟩ :: ⟨b', o', r⟩ :: l) :: T)) {b_x o_x : Nat} {x : Nm} {zx : Int} (mx : (⟨b_x, o_x, x⟩ : Ent) ∈ (⟨b, o, q⟩ : Ent) :: ⟨b', o', r⟩ :: l) {b_y o_y : Nat} {y : Nm} {zy : Int} (my : (⟨b_y, o_y, y⟩ : Ent) ∈ (⟨b, o, q⟩ : Ent) :: ⟨b', o', r⟩ :: l) (hx : x.is zx) (hy : y.is zy) (g0 : -18446744073709551616 < zx) (g1 : zx < 18446744073709551616) (hy0 : zy ≠ 0) (sy : Sm zy) :
    Calls Try.prog 138 #[.pointer (some ⟨b, o, none⟩), .pointer (some ⟨b_x, o_x, none⟩), .pointer (some ⟨b_y, o_y, none⟩), .pointer (some ⟨b', o', none⟩)] w fun e w' => ∃ r : B2, (r.q.is (zx.tdiv zy) ∧ r.r.is (zx.tmod zy)) ∧ e = .returned (.tuple #[.pointer (some ⟨b, o, none⟩), .pointer (some ⟨b', o', none⟩)]) ∧ St w0 w' (bag r.H r.D (⟨b, o, r.q⟩ :: ⟨b', o', r.r⟩ :: l) :: T) := by
  have sx : Sm zx := sm_of (by omega) (by omega)
  have lx1 := hx.len
  have ly1 := hy.len
  have lx := nm_sm hx sx
  have ly := nm_sm hy sy
  have l2 := nm_two hx g0 g1
  refine calls_tr Try.func138 Try.ntmps138 rfl rfl hS ?_
  refine tr_seq ?_
  refine tr_region ?_
  refine tl_step rfl (oj_val (y_assign fe_c) ?_)
  refine tl_step rfl (oj_val (y_assign fe_c) ?_)
  refine tl_nil ?_
  refine tx_then ?_
  refine tr_seq ?_
  refine tr_seq ?_
  refine tr_region ?_
  refine tl_step rfl (oj_val (y_move (fe_t rfl)) ?_)
  refine tl_step rfl (oj_val (y_move (fe_t rfl)) ?_)
  refine tl_step rfl (oj_callv Try.call130 fe_f (fel_cons (fe_t rfl) (fel_cons (fe_t rfl) fel_nil)) (fun w' hS => of_drn (cmpabs_any _ _ _ _ _ _ _ (bag_int hS 0 rfl mx hx) (bag_int hS 0 rfl my hy) sx sy)) ?_)
  refine tl_step rfl (oj_val (y_lss (fe_t rfl) fe_c) ?_)
  refine tl_nil ?_
  refine tx_then ?_
  refine tr_condp (fe_t rfl) (fun hq1 => ?_) (fun hq2 => ?_)
  · have hq1 := hq1
    refine tr_seq ?_
    refine tr_region ?_
    refine tl_step rfl (oj_val (y_move (fe_t rfl)) ?_)
    refine tl_step rfl (oj_val (y_move (fe_t rfl)) ?_)
    refine tl_step rfl (oj_call2 Try.call116 fe_f (fel_cons (fe_t rfl) (fel_cons (fe_t rfl) fel_nil)) (fun w' hS => lift1 (p := fun n => n.is (zx)) 0 1 hS rfl rfl (fun T l' hm hS => setB hS (hm _ mx) hx (by omega))) (fun r2 hr2 => ?_))
    refine tl_nil ?_
    refine tx_then ?_
    refine tr_seq ?_
    refine tr_region ?_
    refine tl_step rfl (oj_val (y_move (fe_t rfl)) ?_)
    refine tl_step rfl (oj_call2 Try.call117 fe_f (fel_cons (fe_t rfl) (fel_cons fe_c fel_nil)) (fun w' hS => lift1 (p := fun n => n.is (0)) 0 0 hS rfl rfl (fun T l' hm hS => setiB hS 0 (by omega) (by omega))) (fun r3 hr3 => ?_))
    refine tl_step rfl (oj_val (y_move (fe_t rfl)) ?_)
    refine tl_step rfl (oj_val (y_assign (fe_t rfl)) ?_)
    refine tl_step rfl (oj_val (y_assign (fe_t rfl)) ?_)
    refine tl_nil ?_
    refine tx_then ?_
    refine tr_ret ?_
    refine tx_then_ret ?_
    refine tx_ret (res2 Try.results138 (rok_t rfl) (rok_t rfl)) (fun w' hS => ?_)
    obtain ⟨e1, e2⟩ := qr_lt (x := zx) (y := zy) (by have := cmp_lt hq1; omega)
    have hS' : St w0 w' (bag _ _ ((⟨b, o, _⟩ : Ent) :: (⟨b', o', _⟩ : Ent) :: l) :: T) := hS
    exact fin2 hS' (by rw [e1]; exact hr3) (by rw [e2]; exact hr2)
  · have hge : zy.natAbs ≤ zx.natAbs := by have := cmp_ge hq2; omega
    have hqa : 0 ≤ (zx.natAbs : Int) / (zy.natAbs : Int) := Int.ediv_nonneg (by omega) (by omega)
    have hqb : (zx.natAbs : Int) / (zy.natAbs : Int) ≤ zx.natAbs := Int.ediv_le_self _ (by omega)
    have hqc : 0 ≤ (zx.natAbs : Int) % (zy.natAbs : Int) := Int.emod_nonneg _ (by omega)
    have hqd : (zx.natAbs : Int) % (zy.natAbs : Int) < zy.natAbs := Int.emod_lt_of_pos _ (by omega)
    have sy : Sm zy := sm_of (by omega) (by omega)
    refine tr_skip ?_
    refine tx_then ?_
    refine tr_seq ?_
    refine tb_draw 10 (sel _ [0]) (fun w h => h.sel _ rfl (by decide)) rfl ?_
    refine tb_float (i := 0) rfl (by kernel_rfl) rfl (wants_none rfl) (yq_of (y_move (fe_t rfl))) ?_
    refine tb_float (i := 1) rfl (by kernel_rfl) rfl (wants_none rfl) (yq_of (y_nilCheck (fe_t rfl))) ?_
    refine tb_float (i := 2) rfl (by kernel_rfl) rfl (wants_none rfl) (yq_of (y_fieldAddr (td := 4) Try.underlying148 rfl rfl Try.sizeOf4 (o' := o_x) rfl (fe_t rfl))) ?_
    refine tb_float (i := 3) rfl (by kernel_rfl) rfl (wants_none rfl) (yq_of (y_ldN1 0 Try.isAgg4 (fe_t rfl) rfl mx)) ?_
    refine tb_float (i := 4) rfl (by kernel_rfl) rfl (wants_none rfl) (yq_of (y_move (fe_t rfl))) ?_
    refine tb_float (i := 5) rfl (by kernel_rfl) rfl (wants_none rfl) (yq_of (y_nilCheck (fe_t rfl))) ?_
    refine tb_float (i := 6) rfl (by kernel_rfl) rfl (wants_none rfl) (yq_of (y_fieldAddr (td := 4) Try.underlying148 rfl rfl Try.sizeOf4 (o' := o_y) rfl (fe_t rfl))) ?_
    refine tb_float (i := 7) rfl (by kernel_rfl) rfl (wants_none rfl) (yq_of (y_ldN1 0 Try.isAgg4 (fe_t rfl) rfl my)) ?_
    refine tb_float (i := 8) rfl (by kernel_rfl) rfl (wants_none rfl) (yq_of (y_assign (fe_t rfl))) ?_
    refine tb_float (i := 9) rfl (by kernel_rfl) rfl (wants_none rfl) (yq_of (y_assign (fe_t rfl))) ?_
    refine tb_done (by kernel_rfl) ?_
    refine tx_then ?_
    refine tr_seq ?_
    refine tr_seq ?_
    refine tr_region ?_
    refine tl_step rfl (oj_val (y_move (fe_t rfl)) ?_)
    refine tl_step rfl (oj_val (y_nilCheck (fe_t rfl)) ?_)
    refine tl_step rfl (oj_val (y_fieldAddr (td := 146) Try.underlying148 rfl rfl Try.sizeOf146 (o' := o_x + 1) rfl (fe_t rfl)) ?_)
    refine tl_step rfl (oj_val (y_ldN2 0 Try.isAgg146 (fe_t rfl) rfl mx) ?_)
    refine tl_step rfl (oj_val (y_len Try.underlying146 (fe_t rfl)) ?_)
    refine tl_step rfl (oj_val (y_lss (fe_t rfl) fe_c) ?_)
    refine tl_nil ?_
    refine tx_then ?_
    refine tr_condp (fe_t rfl) (fun hq3 => ?_) (fun hq4 => ?_)
    · refine tr_seq ?_
      refine tr_region ?_
      refine tl_step rfl (oj_val (y_move (fe_t rfl)) ?_)
      refine tl_step rfl (oj_callv Try.call132 fe_f (fel_cons (fe_t rfl) fel_nil) (fun w' hS => of_eq (uint_any _ _ _ _ (bag_int hS 0 rfl mx hx) g0 g1)) ?_)
      refine tl_step rfl (oj_val (y_move (fe_t rfl)) ?_)
      refine tl_step rfl (oj_callv Try.call132 fe_f (fel_cons (fe_t rfl) fel_nil) (fun w' hS => of_eq (uint_any _ _ _ _ (bag_int hS 0 rfl my hy) (by omega) (by omega))) ?_)
      refine tl_step rfl (oj_val (y_assign (fe_t rfl)) ?_)
      refine tl_step rfl (oj_val (y_assign (fe_t rfl)) ?_)
      refine tl_nil ?_
      refine tx_then ?_
      refine tr_seq ?_
      refine tr_region ?_
      refine tl_step rfl (oj_val (y_move (fe_t rfl)) ?_)
      refine tl_step rfl (oj_val (y_move (fe_t rfl)) ?_)
      refine tl_step rfl (oj_val (y_move (fe_t rfl)) ?_)
      refine tl_step rfl (oj_val (y_quok (fe_t rfl) (fe_t rfl) ⟨by omega, by omega⟩ (IntWalk.u64_in _ (by omega))) ?_)
      refine tl_step rfl (oj_call2 Try.call136 fe_f (fel_cons (fe_t rfl) (fel_cons (fe_t rfl) fel_nil)) (fun w' hS => lift1 (p := fun n => n.is (((zx.natAbs : Int) / (zy.natAbs : Int)))) 0 0 hS rfl rfl (fun T l' hm hS => setuB hS ((zx.natAbs : Int) / (zy.natAbs : Int)) (by omega) (by omega))) (fun r6 hr6 => ?_))
      refine tl_nil ?_
      refine tx_then ?_
      refine tr_seq ?_
      refine tr_region ?_
      refine tl_step rfl (oj_val (y_move (fe_t rfl)) ?_)
      refine tl_step rfl (oj_val (y_move (fe_t rfl)) ?_)
      refine tl_step rfl (oj_val (y_move (fe_t rfl)) ?_)
      refine tl_step rfl (oj_val (y_rem (fe_t rfl) (fe_t rfl) (⟨by omega, by omega⟩)) ?_)
      refine tl_step rfl (oj_call2 Try.call136 fe_f (fel_cons (fe_t rfl) (fel_cons (fe_t rfl) fel_nil)) (fun w' hS => lift1 (p := fun n => n.is (((zx.natAbs : Int) % (zy.natAbs : Int)))) 0 1 hS rfl rfl (fun T l' hm hS => setuB hS ((zx.natAbs : Int) % (zy.natAbs : Int)) (by omega) (by omega))) (fun r7 hr7 => ?_))
      refine tl_nil ?_
      refine tx_then ?_
      refine tr_seq ?_
      refine tr_region ?_
      refine tl_step rfl (oj_val (y_move (fe_t rfl)) ?_)
      refine tl_step rfl (oj_val (y_move (fe_t rfl)) ?_)
      refine tl_step rfl (oj_val (y_move (fe_t rfl)) ?_)
      refine tl_step rfl (oj_val (y_move (fe_t rfl)) ?_)
      refine tl_step rfl (oj_val (y_neqb Try.underlying4 (fe_t rfl) (fe_t rfl)) ?_)
      refine tl_step rfl (oj_val (y_move (fe_t rfl)) ?_)
      refine tl_step rfl (oj_val (y_nilCheck (fe_t rfl)) ?_)
      refine tl_step rfl (oj_val (y_fieldAddr (td := 4) Try.underlying148 rfl rfl Try.sizeOf4 (o' := o) rfl (fe_t rfl)) ?_)
      refine tl_step rfl (oj_stN1 0 0 Try.sizeOf4 (fe_t rfl) (fe_t rfl) rfl rfl (?_))
      refine tl_step rfl (oj_val (y_nilCheck (fe_t rfl)) ?_)
      refine tl_step rfl (oj_val (y_fieldAddr (td := 4) Try.underlying148 rfl rfl Try.sizeOf4 (o' := o') rfl (fe_t rfl)) ?_)
      refine tl_step rfl (oj_stN1 0 1 Try.sizeOf4 (fe_t rfl) (fe_t rfl) rfl rfl (?_))
      refine tl_nil ?_
      refine tx_then ?_
      refine tr_seq ?_
      refine tr_region ?_
      refine tl_step rfl (oj_val (y_move (fe_t rfl)) ?_)
      refine tl_step rfl (oj_call2 Try.call128 fe_f (fel_cons (fe_t rfl) fel_nil) (fun w' hS => lift1 (p := fun n => n.is (sg (!(x.neg == y.neg)) (dval r6.q.ds))) 0 0 hS rfl rfl (fun T l' hm hS => trimB hS (hr6).len (hr6).cap (Nat.le_trans (nm_sm (q := r6.q) hr6 (sm_of (by omega) (by omega))) (by decide)) (hr6).dig)) (fun r8 hr8 => ?_))
      refine tl_step rfl (oj_val (y_move (fe_t rfl)) ?_)
      refine tl_step rfl (oj_call2 Try.call128 fe_f (fel_cons (fe_t rfl) fel_nil) (fun w' hS => lift1 (p := fun n => n.is (sg x.neg (dval r7.q.ds))) 0 1 hS rfl rfl (fun T l' hm hS => trimB hS (hr7).len (hr7).cap (Nat.le_trans (nm_sm (q := r7.q) hr7 (sm_of (by omega) (by omega))) (by decide)) (hr7).dig)) (fun r9 hr9 => ?_))
      refine tl_step rfl (oj_val (y_assign (fe_t rfl)) ?_)
      refine tl_step rfl (oj_val (y_assign (fe_t rfl)) ?_)
      refine tl_nil ?_
      refine tx_then ?_
      refine tr_ret ?_
      refine tx_then_ret ?_
      refine tx_ret (res2 Try.results138 (rok_t rfl) (rok_t rfl)) (fun w' hS => ?_)
      obtain ⟨e1, e2⟩ := qr_ge (nm_neg hx) (nm_neg hy)
      rw [nm_abs hr6, show ((((zx.natAbs : Int) / (zy.natAbs : Int)).natAbs : Nat) : Int) = (zx.natAbs : Int) / (zy.natAbs : Int) by omega, e1] at hr8
      rw [nm_abs hr7, show ((((zx.natAbs : Int) % (zy.natAbs : Int)).natAbs : Nat) : Int) = (zx.natAbs : Int) % (zy.natAbs : Int) by omega, e2] at hr9
      have hS' : St w0 w' (bag _ _ ((⟨b, o, _⟩ : Ent) :: (⟨b', o', _⟩ : Ent) :: l) :: T) := hS
      exact fin2 hS' hr8 hr9
    · exfalso; omega

end Go.Proofs.Ytpknjfeiiaopgaa.Big

namespace Go.Proofs.Ytpknjfeiiaopgaa.Big
open Go.RowKit Go.Proofs.Ytpknjfeiiaopgaa.E

set_option maxRecDepth 100000 in
set_option maxHeartbeats 2000000 in
theorem quoS {w0 w : World} {T : List Res} {H D : List Nat} {l : List Ent} {b o : Nat} {q : Nm} (hS : St w0 w (bag H D (⟨b, o, q⟩ :: l) :: T)) {b_x o_x : Nat} {x : Nm} {zx : Int} (mx : (⟨b_x, o_x, x⟩ : Ent) ∈ (⟨b, o, q⟩ : Ent) :: l) {b_y o_y : Nat} {y : Nm} {zy : Int} (my : (⟨b_y, o_y, y⟩ : Ent) ∈ (⟨b, o, q⟩ : Ent) :: l) (hx : x.is zx) (hy : y.is zy) (g0 : -18446744073709551616 < zx) (g1 : zx < 18446744073709551616) (hy0 : zy ≠ 0) (sy : Sm zy) :
    Calls Try.prog 114 #[.pointer (some ⟨b, o, none⟩), .pointer (some ⟨b_x, o_x, none⟩), .pointer (some ⟨b_y, o_y, none⟩)] w fun e w' => ∃ r : B1, r.q.is (zx.tdiv zy) ∧ e = .returned (.pointer (some ⟨b, o, none⟩)) ∧ St w0 w' (bag r.H r.D (⟨b, o, r.q⟩ :: l) :: T) := by
  refine calls_tr Try.func114 Try.ntmps114 rfl rfl hS ?_
  refine tr_seq ?_
  refine tr_region ?_
  refine tl_step rfl (oj_val (y_assign fe_c) ?_)
  refine tl_nil ?_
  refine tx_then ?_
  refine tr_seq ?_
  refine tr_region ?_
  refine tl_step rfl (oj_val (y_move (fe_t rfl)) ?_)
  refine tl_step rfl (oj_val (y_move (fe_t rfl)) ?_)
  refine tl_step rfl (oj_val (y_move (fe_t rfl)) ?_)
  refine tl_step rfl (oj_allocN 0 Try.zeroValue148 rfl (fun b_i H_i => ?_))
  refine tl_step rfl (oj_call2 Try.call138 fe_f (fel_cons (fe_t rfl) (fel_cons (fe_t rfl) (fel_cons (fe_t rfl) (fel_cons (fe_t rfl) fel_nil)))) (fun w' hS => lift2 (p := fun m n => m.is ((zx).tdiv (zy)) ∧ n.is ((zx).tmod (zy))) 0 1 0 hS rfl rfl rfl rfl (fun T l' hm hS => quoremS hS (hm _ (List.mem_cons_of_mem _ mx)) (hm _ (List.mem_cons_of_mem _ my)) hx hy g0 g1 hy0 sy)) (fun r1 hr1 => ?_))
  refine tl_nil ?_
  refine tx_then ?_
  refine tr_seq ?_
  refine tr_region ?_
  refine tl_step rfl (oj_val (y_move (fe_t rfl)) ?_)
  refine tl_step rfl (oj_val (y_assign (fe_t rfl)) ?_)
  refine tl_nil ?_
  refine tx_then ?_
  refine tr_ret ?_
  refine tx_ret (res1 Try.results114 (rok_t rfl)) (fun w' hS => ?_)
  have hS := St.bagpick (es := [_, _]) 0 hS rfl [1] rfl (by decide)
  have hS' : St w0 w' (bag _ _ ((⟨b, o, _⟩ : Ent) :: l) :: T) := hS
  exact fin1 hS' hr1.1

set_option maxRecDepth 100000 in
set_option maxHeartbeats 4000000 in
theorem divmodS {w0 w : World} {T : List Res} {H D : List Nat} {l : List Ent} {b o b' o' : Nat} {q r : Nm} (hS : St w0 w (bag H D (⟨b, o, q⟩ :: ⟨b', o', r⟩ :: l) :: T)) {b_x o_x : Nat} {x : Nm} {zx : Int} (mx : (⟨b_x, o_x, x⟩ : Ent) ∈ (⟨b, o, q⟩ : Ent) :: ⟨b', o', r⟩ :: l) {b_y o_y : Nat} {y : Nm} {zy : Int} (my : (⟨b_y, o_y, y⟩ : Ent) ∈ (⟨b, o, q⟩ : Ent) :: ⟨b', o', r⟩ :: l) (hx : x.is zx) (hy : y.is zy) (g0 : -18446744073709551616 < zx) (g1 : zx < 18446744073709551616) (hy0 : zy ≠ 0) (sy : Sm zy) :
    Calls Try.prog 167 #[.pointer (some ⟨b, o, none⟩), .pointer (some ⟨b_x, o_x, none⟩), .pointer (some ⟨b_y, o_y, none⟩), .pointer (some ⟨b', o', none⟩)] w fun e w' => ∃ r : B2, (r.q.is (zx / zy) ∧ r.r.is (zx % zy)) ∧ e = .returned (.tuple #[.pointer (some ⟨b, o, none⟩), .pointer (some ⟨b', o', none⟩)]) ∧ St w0 w' (bag r.H r.D (⟨b, o, r.q⟩ :: ⟨b', o', r.r⟩ :: l) :: T) := by
  have sx : Sm zx := sm_of (by omega) (by omega)
  have sq : (zx.tdiv zy).natAbs ≤ zx.natAbs := by have h : (zx.tdiv zy).natAbs = zx.natAbs / zy.natAbs := Int.natAbs_tdiv zx zy; rw [h]; exact Nat.div_le_self _ _
  have sr : (zx.tmod zy).natAbs ≤ zx.natAbs := by have h : (zx.tmod zy).natAbs = zx.natAbs % zy.natAbs := Int.natAbs_tmod zx zy; rw [h]; exact Nat.mod_le _ _
  have sq' : Sm (zx.tdiv zy) := sm_of (by omega) (by omega)
  have sr' : Sm (zx.tmod zy) := sm_of (by omega) (by omega)
  have s1 : Sm 1 := sm_of (by omega) (by omega)
  have lx := nm_sm hx sx
  have ly := nm_sm hy sy
  refine calls_tr Try.func167 Try.ntmps167 rfl rfl hS ?_
  refine tr_seq ?_
  refine tr_region ?_
  refine tl_step rfl (oj_val (y_assign fe_c) ?_)
  refine tl_step rfl (oj_val (y_assign fe_c) ?_)
  refine tl_nil ?_
  refine tx_then ?_
  refine tr_seq ?_
  refine tr_region ?_
  refine tl_step rfl (oj_allocN 0 Try.zeroValue148 rfl (fun b_i H_i => ?_))
  refine tl_step rfl (oj_val (y_move (fe_t rfl)) ?_)
  refine tl_step rfl (oj_call2 Try.call116 fe_f (fel_cons (fe_t rfl) (fel_cons (fe_t rfl) fel_nil)) (fun w' hS => lift1 (p := fun n => n.is (zy)) 0 0 hS rfl rfl (fun T l' hm hS => setB hS (hm _ (List.mem_cons_of_mem _ my)) hy (by omega))) (fun r1 hr1 => ?_))
  refine tl_step rfl (oj_val (y_assign (fe_t rfl)) ?_)
  refine tl_nil ?_
  refine tx_then ?_
  refine tr_seq ?_
  refine tr_region ?_
  refine tl_step rfl (oj_val (y_move (fe_t rfl)) ?_)
  refine tl_step rfl (oj_val (y_move (fe_t rfl)) ?_)
  refine tl_step rfl (oj_val (y_move (fe_t rfl)) ?_)
  refine tl_step rfl (oj_val (y_move (fe_t rfl)) ?_)
  refine tl_step rfl (oj_call2 Try.call138 fe_f (fel_cons (fe_t rfl) (fel_cons (fe_t rfl) (fel_cons (fe_t rfl) (fel_cons (fe_t rfl) fel_nil)))) (fun w' hS => lift2 (p := fun m n => m.is ((zx).tdiv (zy)) ∧ n.is ((zx).tmod (zy))) 0 1 2 hS rfl rfl rfl rfl (fun T l' hm hS => quoremS hS (hm _ (List.mem_cons_of_mem _ mx)) (hm _ (List.mem_cons_of_mem _ my)) hx hy g0 g1 hy0 sy)) (fun r2 hr2 => ?_))
  refine tl_nil ?_
  refine tx_then ?_
  refine tr_seq ?_
  refine tr_seq ?_
  refine tr_region ?_
  refine tl_step rfl (oj_val (y_move (fe_t rfl)) ?_)
  refine tl_step rfl (oj_val (y_nilCheck (fe_t rfl)) ?_)
  refine tl_step rfl (oj_val (y_fieldAddr (td := 4) Try.underlying148 rfl rfl Try.sizeOf4 (o' := o') rfl (fe_t rfl)) ?_)
  refine tl_step rfl (oj_val (y_ldN1 0 Try.isAgg4 (fe_t rfl) rfl (pget_mem 2 rfl)) ?_)
  refine tl_nil ?_
  refine tx_then ?_
  refine tr_cond (fe_t rfl) (fun hq1 => ?_) (fun hq2 => ?_)
  · have hneg : zx.tmod zy < 0 := (nm_neg hr2.2).1 hq1
    refine tr_seq ?_
    refine tr_region ?_
    refine tl_step rfl (oj_val (y_move (fe_t rfl)) ?_)
    refine tl_step rfl (oj_val (y_nilCheck (fe_t rfl)) ?_)
    refine tl_step rfl (oj_val (y_fieldAddr (td := 4) Try.underlying148 rfl rfl Try.sizeOf4 (o' := 0) rfl (fe_t rfl)) ?_)
    refine tl_step rfl (oj_val (y_ldN1 0 Try.isAgg4 (fe_t rfl) rfl (pget_mem 0 rfl)) ?_)
    refine tl_nil ?_
    refine tx_then ?_
    refine tr_cond (fe_t rfl) (fun hq3 => ?_) (fun hq4 => ?_)
    · have hdn := hq3
      refine tr_seq ?_
      refine tr_region ?_
      refine tl_step rfl (oj_val (y_move (fe_t rfl)) ?_)
      refine tl_step rfl (oj_val (y_move (fe_t rfl)) ?_)
      refine tl_step rfl (oj_call2 Try.call82 fe_f (fel_cons fe_c fel_nil) (fun w' hS => lift 0 hS rfl (fun T hS => newB hS 1 (by omega) (by omega))) (fun r3 hr3 => ?_))
      refine tl_step rfl (oj_call2 Try.call104 fe_f (fel_cons (fe_t rfl) (fel_cons (fe_t rfl) (fel_cons (fe_t rfl) fel_nil))) (fun w' hS => lift1 (p := fun n => n.is (((zx).tdiv (zy)) + 1)) 0 2 hS rfl rfl (fun T l' hm hS => addB hS (hm _ (pget_mem 2 rfl)) (hm _ (pget_mem 0 rfl)) hr2.1 hr3 sq' s1)) (fun r4 hr4 => ?_))
      refine tl_nil ?_
      refine tx_then ?_
      refine tr_region ?_
      refine tl_step rfl (oj_val (y_move (fe_t rfl)) ?_)
      refine tl_step rfl (oj_val (y_move (fe_t rfl)) ?_)
      refine tl_step rfl (oj_val (y_move (fe_t rfl)) ?_)
      refine tl_step rfl (oj_call2 Try.call184 fe_f (fel_cons (fe_t rfl) (fel_cons (fe_t rfl) (fel_cons (fe_t rfl) fel_nil))) (fun w' hS => lift1 (p := fun n => n.is (((zx).tmod (zy)) - zy)) 0 3 hS rfl rfl (fun T l' hm hS => subB hS (hm _ (pget_mem 3 rfl)) (hm _ (pget_mem 1 rfl)) hr2.2 hr1 sr' sy)) (fun r5 hr5 => ?_))
      refine tl_nil ?_
      refine tx_then ?_
      refine tr_seq ?_
      refine tr_region ?_
      refine tl_step rfl (oj_val (y_move (fe_t rfl)) ?_)
      refine tl_step rfl (oj_val (y_move (fe_t rfl)) ?_)
      refine tl_step rfl (oj_val (y_assign (fe_t rfl)) ?_)
      refine tl_step rfl (oj_val (y_assign (fe_t rfl)) ?_)
      refine tl_nil ?_
      refine tx_then ?_
      refine tr_ret ?_
      refine tx_ret (res2 Try.results167 (rok_t rfl) (rok_t rfl)) (fun w' hS => ?_)
      have hn : zx.tmod zy < 0 := hneg
      have hy1 : zy < 0 := (nm_neg hr1).1 (by simpa using hdn)
      obtain ⟨e1, e2⟩ := (em_neg hy0 hn).1 hy1
      have hz : _ := hr4
      have hr : _ := hr5
      rw [e1] at hz
      rw [e2] at hr
      have hS := St.bagpick (es := [_, _, _, _]) 0 hS rfl [2, 3] rfl (by decide)
      have hS' : St w0 w' (bag _ _ ((⟨b, o, _⟩ : Ent) :: (⟨b', o', _⟩ : Ent) :: l) :: T) := hS
      exact fin2 hS' hz hr
    · have hdn := hq4
      refine tr_seq ?_
      refine tr_region ?_
      refine tl_step rfl (oj_val (y_move (fe_t rfl)) ?_)
      refine tl_step rfl (oj_val (y_move (fe_t rfl)) ?_)
      refine tl_step rfl (oj_call2 Try.call82 fe_f (fel_cons fe_c fel_nil) (fun w' hS => lift 0 hS rfl (fun T hS => newB hS 1 (by omega) (by omega))) (fun r6 hr6 => ?_))
      refine tl_step rfl (oj_call2 Try.call184 fe_f (fel_cons (fe_t rfl) (fel_cons (fe_t rfl) (fel_cons (fe_t rfl) fel_nil))) (fun w' hS => lift1 (p := fun n => n.is (((zx).tdiv (zy)) - 1)) 0 2 hS rfl rfl (fun T l' hm hS => subB hS (hm _ (pget_mem 2 rfl)) (hm _ (pget_mem 0 rfl)) hr2.1 hr6 sq' s1)) (fun r7 hr7 => ?_))
      refine tl_nil ?_
      refine tx_then ?_
      refine tr_region ?_
      refine tl_step rfl (oj_val (y_move (fe_t rfl)) ?_)
      refine tl_step rfl (oj_val (y_move (fe_t rfl)) ?_)
      refine tl_step rfl (oj_val (y_move (fe_t rfl)) ?_)
      refine tl_step rfl (oj_call2 Try.call104 fe_f (fel_cons (fe_t rfl) (fel_cons (fe_t rfl) (fel_cons (fe_t rfl) fel_nil))) (fun w' hS => lift1 (p := fun n => n.is (((zx).tmod (zy)) + zy)) 0 3 hS rfl rfl (fun T l' hm hS => addB hS (hm _ (pget_mem 3 rfl)) (hm _ (pget_mem 1 rfl)) hr2.2 hr1 sr' sy)) (fun r8 hr8 => ?_))
      refine tl_nil ?_
      refine tx_then ?_
      refine tr_seq ?_
      refine tr_region ?_
      refine tl_step rfl (oj_val (y_move (fe_t rfl)) ?_)
      refine tl_step rfl (oj_val (y_move (fe_t rfl)) ?_)
      refine tl_step rfl (oj_val (y_assign (fe_t rfl)) ?_)
      refine tl_step rfl (oj_val (y_assign (fe_t rfl)) ?_)
      refine tl_nil ?_
      refine tx_then ?_
      refine tr_ret ?_
      refine tx_ret (res2 Try.results167 (rok_t rfl) (rok_t rfl)) (fun w' hS => ?_)
      have hn : zx.tmod zy < 0 := hneg
      have hy1 : ¬ zy < 0 := fun h => by have := (nm_neg hr1).2 h; simp_all
      obtain ⟨e1, e2⟩ := (em_neg hy0 hn).2 hy1
      have hz : _ := hr7
      have hr : _ := hr8
      rw [e1] at hz
      rw [e2] at hr
      have hS := St.bagpick (es := [_, _, _, _]) 0 hS rfl [2, 3] rfl (by decide)
      have hS' : St w0 w' (bag _ _ ((⟨b, o, _⟩ : Ent) :: (⟨b', o', _⟩ : Ent) :: l) :: T) := hS
      exact fin2 hS' hz hr
  · refine tr_skip ?_
    refine tx_then ?_
    refine tr_seq ?_
    refine tr_region ?_
    refine tl_step rfl (oj_val (y_move (fe_t rfl)) ?_)
    refine tl_step rfl (oj_val (y_move (fe_t rfl)) ?_)
    refine tl_step rfl (oj_val (y_assign (fe_t rfl)) ?_)
    refine tl_step rfl (oj_val (y_assign (fe_t rfl)) ?_)
    refine tl_nil ?_
    refine tx_then ?_
    refine tr_ret ?_
    refine tx_ret (res2 Try.results167 (rok_t rfl) (rok_t rfl)) (fun w' hS => ?_)
    have hn : ¬ zx.tmod zy < 0 := fun h => by have := (nm_neg hr2.2).2 h; simp_all
    obtain ⟨e1, e2⟩ := em_pos hn
    have hz : _ := hr2.1
    have hr : _ := hr2.2
    rw [e1] at hz
    rw [e2] at hr
    have hS := St.bagpick (es := [_, _, _]) 0 hS rfl [1, 2] rfl (by decide)
    have hS' : St w0 w' (bag _ _ ((⟨b, o, _⟩ : Ent) :: (⟨b', o', _⟩ : Ent) :: l) :: T) := hS
    exact fin2 hS' hz hr



set_option maxRecDepth 100000 in
set_option maxHeartbeats 2000000 in
theorem modS {w0 w : World} {T : List Res} {H D : List Nat} {l : List Ent} {b o : Nat} {q : Nm} (hS : St w0 w (bag H D (⟨b, o, q⟩ :: l) :: T)) {b_x o_x : Nat} {x : Nm} {zx : Int} (mx : (⟨b_x, o_x, x⟩ : Ent) ∈ (⟨b, o, q⟩ : Ent) :: l) {b_y o_y : Nat} {y : Nm} {zy : Int} (my : (⟨b_y, o_y, y⟩ : Ent) ∈ (⟨b, o, q⟩ : Ent) :: l) (hx : x.is zx) (hy : y.is zy) (g0 : -18446744073709551616 < zx) (g1 : zx < 18446744073709551616) (hy0 : zy ≠ 0) (sy : Sm zy) :
    Calls Try.prog 137 #[.pointer (some ⟨b, o, none⟩), .pointer (some ⟨b_x, o_x, none⟩), .pointer (some ⟨b_y, o_y, none⟩)] w fun e w' => ∃ r : B1, r.q.is (zx % zy) ∧ e = .returned (.pointer (some ⟨b, o, none⟩)) ∧ St w0 w' (bag r.H r.D (⟨b, o, r.q⟩ :: l) :: T) := by
  refine calls_tr Try.func137 Try.ntmps137 rfl rfl hS ?_
  refine tr_seq ?_
  refine tr_region ?_
  refine tl_step rfl (oj_val (y_assign fe_c) ?_)
  refine tl_nil ?_
  refine tx_then ?_
  refine tr_seq ?_
  refine tr_region ?_
  refine tl_step rfl (oj_allocN 0 Try.zeroValue148 rfl (fun b_i H_i => ?_))
  refine tl_step rfl (oj_val (y_move (fe_t rfl)) ?_)
  refine tl_step rfl (oj_val (y_move (fe_t rfl)) ?_)
  refine tl_step rfl (oj_val (y_move (fe_t rfl)) ?_)
  refine tl_step rfl (oj_call2 Try.call167 fe_f (fel_cons (fe_t rfl) (fel_cons (fe_t rfl) (fel_cons (fe_t rfl) (fel_cons (fe_t rfl) fel_nil)))) (fun w' hS => lift2 (p := fun m n => m.is (zx / zy) ∧ n.is (zx % zy)) 0 0 1 hS rfl rfl rfl rfl (fun T l' hm hS => divmodS hS (hm _ (List.mem_cons_of_mem _ mx)) (hm _ (List.mem_cons_of_mem _ my)) hx hy g0 g1 hy0 sy)) (fun r1 hr1 => ?_))
  refine tl_nil ?_
  refine tx_then ?_
  refine tr_seq ?_
  refine tr_region ?_
  refine tl_step rfl (oj_val (y_move (fe_t rfl)) ?_)
  refine tl_step rfl (oj_val (y_assign (fe_t rfl)) ?_)
  refine tl_nil ?_
  refine tx_then ?_
  refine tr_ret ?_
  refine tx_ret (res1 Try.results137 (rok_t rfl)) (fun w' hS => ?_)
  have hS := St.bagpick (es := [_, _]) 0 hS rfl [1] rfl (by decide)
  have hS' : St w0 w' (bag _ _ ((⟨b, o, _⟩ : Ent) :: l) :: T) := hS
  exact fin1 hS' hr1.2

set_option maxRecDepth 100000 in
set_option maxHeartbeats 4000000 in
theorem gcdS {w0 w : World} {T : List Res} {H D : List Nat} {l : List Ent} {b o : Nat} {q : Nm} (hS : St w0 w (bag H D (⟨b, o, q⟩ :: l) :: T)) {b_x o_x : Nat} {x : Nm} {zx : Int} (mx : (⟨b_x, o_x, x⟩ : Ent) ∈ (⟨b, o, q⟩ : Ent) :: l) {b_y o_y : Nat} {y : Nm} {zy : Int} (my : (⟨b_y, o_y, y⟩ : Ent) ∈ (⟨b, o, q⟩ : Ent) :: l) (hx : x.is zx) (hy : y.is zy) (g0 : -18446744073709551616 < zx) (g1 : zx < 18446744073709551616) (g2 : -18446744073709551616 < zy) (g3 : zy < 18446744073709551616) :
    Calls Try.prog 113 #[.pointer (some ⟨b, o, none⟩), .pointer none, .pointer none, .pointer (some ⟨b_x, o_x, none⟩), .pointer (some ⟨b_y, o_y, none⟩)] w fun e w' => ∃ r : B1, r.q.is ((Int.gcd zx zy : Int)) ∧ e = .returned (.pointer (some ⟨b, o, none⟩)) ∧ St w0 w' (bag r.H r.D (⟨b, o, r.q⟩ :: l) :: T) := by
  have sx : Sm zx := sm_of (by omega) (by omega)
  have sy : Sm zy := sm_of (by omega) (by omega)
  have lx := nm_sm hx sx
  have ly := nm_sm hy sy
  refine calls_tr Try.func113 Try.ntmps113 rfl rfl hS ?_
  refine tr_seq ?_
  refine tr_region ?_
  refine tl_step rfl (oj_val (y_assign fe_c) ?_)
  refine tl_nil ?_
  refine tx_then ?_
  refine tr_seq ?_
  refine tr_region ?_
  refine tl_step rfl (oj_allocN 0 Try.zeroValue148 rfl (fun b_i H_i => ?_))
  refine tl_step rfl (oj_val (y_move (fe_t rfl)) ?_)
  refine tl_step rfl (oj_call2 Try.call135 fe_f (fel_cons (fe_t rfl) (fel_cons (fe_t rfl) fel_nil)) (fun w' hS => lift1 (p := fun n => n.is (((zx).natAbs : Int))) 0 0 hS rfl rfl (fun T l' hm hS => absB hS (hm _ (List.mem_cons_of_mem _ mx)) hx (by omega))) (fun r1 hr1 => ?_))
  refine tl_step rfl (oj_allocN 0 Try.zeroValue148 rfl (fun b_j H_j => ?_))
  refine tl_step rfl (oj_val (y_move (fe_t rfl)) ?_)
  refine tl_step rfl (oj_call2 Try.call135 fe_f (fel_cons (fe_t rfl) (fel_cons (fe_t rfl) fel_nil)) (fun w' hS => lift1 (p := fun n => n.is (((zy).natAbs : Int))) 0 0 hS rfl rfl (fun T l' hm hS => absB hS (hm _ (List.mem_cons_of_mem _ (List.mem_cons_of_mem _ my))) hy (by omega))) (fun r2 hr2 => ?_))
  refine tl_step rfl (oj_val (y_assign (fe_t rfl)) ?_)
  refine tl_step rfl (oj_val (y_assign (fe_t rfl)) ?_)
  refine tl_nil ?_
  refine tx_then ?_
  refine tr_seq ?_
  refine tr_block ?_
  refine tr_loop1 [10, 11, 12, 13, 14, 21, 22, 23, 24, 25, 26, 27, 28, 29, 30, 31, 32, 33, 34, 35, 36, 37, 38, 39, 40, 41, 42, 43, 44, 45, 46, 47, 48, 49, 50, 51, 52, 53, 54, 55] (fun (u : Nat) => [(11, .pointer (some ⟨b_i, 0, none⟩)), (12, .pointer (some ⟨b_j, 0, none⟩))]) 0 (fun (u : Nat) => []) (fun (u : Nat) => u ≤ 5) (fun (u : Nat) => u) (0) (cov_cons (by first | rfl | exact v_int (by simp) | exact v_int (by omega)) (cov_cons (by first | rfl | exact v_int (by simp) | exact v_int (by omega)) (cov_nil))) (fun w h => h) ?_ ?_
  · try dsimp only
    first | done | omega
  intro u hp
  refine tr_seq ?_
  refine tr_seq ?_
  refine tr_region ?_
  refine tl_step rfl (oj_val (y_move (fe_t rfl)) ?_)
  refine tl_step rfl (oj_callv Try.call108 fe_f (fel_cons (fe_t rfl) fel_nil) (fun w' hS => of_eq (sign_any _ _ _ _ (bag_int hS 0 rfl (pget_mem 0 rfl) hr2))) ?_)
  refine tl_step rfl (oj_val (y_neq (fe_t rfl) fe_c) ?_)
  refine tl_nil ?_
  refine tx_then ?_
  refine tr_condp (fe_t rfl) (fun hq1 => ?_) (fun hq2 => ?_)
  · have hy1 := hq1
    refine tr_skip ?_
    refine tx_then ?_
    refine tr_block ?_
    refine tr_seq ?_
    refine tr_seq ?_
    have la := nm_two hr1 (by omega) (by omega)
    have lb := nm_two hr2 (by omega) (by omega)
    refine tr_region ?_
    refine tl_step rfl (oj_val (y_move (fe_t rfl)) ?_)
    refine tl_step rfl (oj_val (y_nilCheck (fe_t rfl)) ?_)
    refine tl_step rfl (oj_val (y_fieldAddr (td := 146) Try.underlying148 rfl rfl Try.sizeOf146 (o' := 1) rfl (fe_t rfl)) ?_)
    refine tl_step rfl (oj_val (y_ldN2 0 Try.isAgg146 (fe_t rfl) rfl (pget_mem 1 rfl)) ?_)
    refine tl_step rfl (oj_val (y_len Try.underlying146 (fe_t rfl)) ?_)
    refine tl_step rfl (oj_val (y_lss (fe_t rfl) fe_c) ?_)
    refine tl_step rfl (oj_val (y_move (fe_t rfl)) ?_)
    refine tl_splitp (d := 30) rfl (fun hq3 => ?_) (fun hq4 => ?_)
    · refine tl_want rfl rfl rfl (oj_val (y_move (fe_t rfl)) ?_)
      refine tl_want rfl rfl rfl (oj_val (y_nilCheck (fe_t rfl)) ?_)
      refine tl_want rfl rfl rfl (oj_val (y_fieldAddr (td := 146) Try.underlying148 rfl rfl Try.sizeOf146 (o' := 1) rfl (fe_t rfl)) ?_)
      refine tl_want rfl rfl rfl (oj_val (y_ldN2 0 Try.isAgg146 (fe_t rfl) rfl (pget_mem 0 rfl)) ?_)
      refine tl_want rfl rfl rfl (oj_val (y_len Try.underlying146 (fe_t rfl)) ?_)
      refine tl_want rfl rfl rfl (oj_val (y_lss (fe_t rfl) fe_c) ?_)
      refine tl_step rfl (oj_val (y_pickt (fe_t rfl) (fe_t rfl)) ?_)
      refine tl_nil ?_
      refine tx_then ?_
      refine tr_condp (fe_t rfl) (fun hq5 => ?_) (fun hq6 => ?_)
      · refine tr_seq ?_
        have la := nm_two hr1 (by omega) (by omega)
        have lb := nm_two hr2 (by omega) (by omega)
        refine tr_region ?_
        refine tl_step rfl (oj_val (y_move (fe_t rfl)) ?_)
        refine tl_step rfl (oj_callv Try.call132 fe_f (fel_cons (fe_t rfl) fel_nil) (fun w' hS => of_eq (uint_any _ _ _ _ (bag_int hS 0 rfl (pget_mem 1 rfl) hr1) (by omega) (by omega))) ?_)
        refine tl_step rfl (oj_val (y_move (fe_t rfl)) ?_)
        refine tl_step rfl (oj_callv Try.call132 fe_f (fel_cons (fe_t rfl) fel_nil) (fun w' hS => of_eq (uint_any _ _ _ _ (bag_int hS 0 rfl (pget_mem 0 rfl) hr2) (by omega) (by omega))) ?_)
        refine tl_step rfl (oj_val (y_assign (fe_t rfl)) ?_)
        refine tl_step rfl (oj_val (y_assign (fe_t rfl)) ?_)
        refine tl_nil ?_
        refine tx_then ?_
        refine tr_seq ?_
        refine tr_block ?_
        refine tr_loop2 [13, 14, 42, 43, 44, 45, 46, 47] (fun (c : Nat) (d : Nat) => [(13, .int .u64 (c : Int)), (14, .int .u64 (d : Int))]) 0 (fun (c : Nat) (d : Nat) => []) (fun (c : Nat) (d : Nat) => Nat.gcd c d = Int.gcd zx zy ∧ c ≤ 18446744073709551615 ∧ d ≤ 18446744073709551615) (fun (c : Nat) (d : Nat) => d) (zx.natAbs) (zy.natAbs) (cov_cons (by first | rfl | exact v_int (by simp) | exact v_int (by omega)) (cov_cons (by first | rfl | exact v_int (by simp) | exact v_int (by omega)) (cov_nil))) (fun w h => h) ?_ ?_
        · try dsimp only
          exact ⟨rfl, by omega, by omega⟩
        intro c d hp
        obtain ⟨hg, hc, hd⟩ := hp
        refine tr_seq ?_
        refine tr_seq ?_
        refine tr_region ?_
        refine tl_step rfl (oj_val (y_move (fe_t rfl)) ?_)
        refine tl_step rfl (oj_val (y_gtr (fe_t rfl) fe_c) ?_)
        refine tl_nil ?_
        refine tx_then ?_
        refine tr_condp (fe_t rfl) (fun hq7 => ?_) (fun hq8 => ?_)
        · refine tr_skip ?_
          refine tx_then ?_
          refine tr_block ?_
          refine tb_draw 6 (sel _ [0]) (fun w h => h.sel _ rfl (by decide)) rfl ?_
          refine tb_float (i := 0) rfl (by kernel_rfl) rfl (wants_none rfl) (yq_of (y_move (fe_t rfl))) ?_
          refine tb_float (i := 1) rfl (by kernel_rfl) rfl (wants_none rfl) (yq_of (y_move (fe_t rfl))) ?_
          refine tb_float (i := 2) rfl (by kernel_rfl) rfl (wants_none rfl) (yq_of (y_move (fe_t rfl))) ?_
          refine tb_float (i := 3) rfl (by kernel_rfl) rfl (wants_none rfl) (yq_of (y_rem (fe_t rfl) (fe_t rfl) ⟨by omega, by omega⟩)) ?_
          refine tb_float (i := 4) rfl (by kernel_rfl) rfl (wants_none rfl) (yq_of (y_assign (fe_t rfl))) ?_
          refine tb_float (i := 5) rfl (by kernel_rfl) rfl (wants_none rfl) (yq_of (y_assign (fe_t rfl))) ?_
          refine tb_done (by kernel_rfl) ?_
          refine tx_in ?_
          apply tx_back2 (d) (c % d)
          · exact (cov_cons (by first | rfl | exact v_int (by simp) | exact v_int (by omega)) (cov_cons (by first | rfl | exact v_int (by simp) | exact v_int (by omega)) (cov_nil)))
          · repeat (first | exact over_nil | refine over_put rfl ?_ | refine over_drop rfl ?_)
          · exact fun w h => h
          · exact ⟨⟨by rw [← hg, Nat.gcd_comm d, ← Nat.gcd_rec, Nat.gcd_comm], by omega, by have := Nat.mod_lt c (show d > 0 by omega); omega⟩, Nat.mod_lt c (by omega)⟩
        · refine tr_exit ?_
          refine tx_then_exit ?_
          refine tx_then_exit ?_
          refine tx_in_exit ?_
          refine tx_then ?_
          refine tr_seq ?_
          refine tr_region ?_
          refine tl_step rfl (oj_val (y_move (fe_t rfl)) ?_)
          refine tl_step rfl (oj_val (y_move (fe_t rfl)) ?_)
          refine tl_step rfl (oj_call2 Try.call136 fe_f (fel_cons (fe_t rfl) (fel_cons (fe_t rfl) fel_nil)) (fun w' hS => lift1 (p := fun n => n.is ((c : Int))) 0 2 hS rfl rfl (fun T l' hm hS => setuB hS (c : Int) (by omega) (by omega))) (fun r6 hr6 => ?_))
          refine tl_step rfl (oj_val (y_assign (fe_t rfl)) ?_)
          refine tl_nil ?_
          refine tx_then ?_
          refine tr_ret ?_
          refine tx_then_ret ?_
          refine tx_in_ret ?_
          refine tx_then_ret ?_
          refine tx_in_ret ?_
          refine tx_then_ret ?_
          refine tx_ret (res1 Try.results113 (rok_t rfl)) (fun w' hS => ?_)
          have hS := St.bagpick (es := [_, _, _]) 0 hS rfl [2] rfl (by decide)
          have hS' : St w0 w' (bag _ _ ((⟨b, o, _⟩ : Ent) :: l) :: T) := hS
          exact fin1 hS' (by rw [← hg, show d = 0 by omega, Nat.gcd_zero_right]; exact hr6)
      · exfalso; omega
    · refine tl_skip rfl rfl rfl rfl ?_
      refine tl_skip rfl rfl rfl rfl ?_
      refine tl_skip rfl rfl rfl rfl ?_
      refine tl_skip rfl rfl rfl rfl ?_
      refine tl_skip rfl rfl rfl rfl ?_
      refine tl_skip rfl rfl rfl rfl ?_
      refine tl_step rfl (oj_val (y_pickf (fe_t rfl) fe_c) ?_)
      refine tl_nil ?_
      refine tx_then ?_
      exfalso; omega
  · have hy1 := hq2
    refine tr_exit ?_
    refine tx_then_exit ?_
    refine tx_then_exit ?_
    refine tx_in_exit ?_
    refine tx_then ?_
    refine tr_seq ?_
    refine tr_region ?_
    refine tl_step rfl (oj_val (y_move (fe_t rfl)) ?_)
    refine tl_step rfl (oj_val (y_move (fe_t rfl)) ?_)
    refine tl_step rfl (oj_call2 Try.call116 fe_f (fel_cons (fe_t rfl) (fel_cons (fe_t rfl) fel_nil)) (fun w' hS => lift1 (p := fun n => n.is (((zx).natAbs : Int))) 0 2 hS rfl rfl (fun T l' hm hS => setB hS (hm _ (pget_mem 1 rfl)) hr1 (Nat.le_trans (nm_sm hr1 (sm_of (by omega) (by omega))) (by decide)))) (fun r7 hr7 => ?_))
    refine tl_step rfl (oj_val (y_assign (fe_t rfl)) ?_)
    refine tl_nil ?_
    refine tx_then ?_
    refine tr_ret ?_
    refine tx_ret (res1 Try.results113 (rok_t rfl)) (fun w' hS => ?_)
    have hz : zy = 0 := Int.natAbs_eq_zero.1 (by have := Int.sign_eq_zero_iff_zero.1 (by simpa using hy1); omega)
    have hS := St.bagpick (es := [_, _, _]) 0 hS rfl [2] rfl (by decide)
    have hS' : St w0 w' (bag _ _ ((⟨b, o, _⟩ : Ent) :: l) :: T) := hS
    exact fin1 hS' (by rw [show ((Int.gcd zx zy : Nat) : Int) = (zx.natAbs : Int) by rw [hz, Int.gcd_zero_right]]; exact hr7)

end Go.Proofs.Ytpknjfeiiaopgaa.Big
