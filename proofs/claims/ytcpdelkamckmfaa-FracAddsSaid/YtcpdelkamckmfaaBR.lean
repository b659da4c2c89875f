/- The Int library, numbers held together: fractions: SetFrac, Num, Denom. -/
import Derived.Test.YtcpdelkamckmfaaBG
namespace Go.Proofs.Ytcpdelkamckmfaa.Big
open Go.RowKit Go.Proofs.Ytcpdelkamckmfaa.E

/-- Two numbers are a fraction's. -/
def RatIs (p q : Nm) (v : Rat) : Prop := p.is v.num ∧ (q.is (v.den : Int) ∨ (v = 0 ∧ q.is 0))
theorem ratis_zero : RatIs nm0 nm0 0 := ⟨nm_zero, .inr ⟨rfl, nm_zero⟩⟩
theorem gcd_facts {a b : Int} (hb : 0 < b) : 0 < (Int.gcd a b : Int) ∧ (Int.gcd a b : Int) ≤ b := by
  have h1 : 0 < Int.gcd a b := Int.gcd_pos_of_ne_zero_right _ (by omega)
  have h2 : Int.gcd a b ≤ b.natAbs := Nat.gcd_le_right _ (by omega)
  omega
theorem ratis_frac {p q : Nm} {a b : Int} (hb : 0 < b) (hp : p.is (a.tdiv (Int.gcd a b : Int))) (hq : q.is (b.tdiv (Int.gcd a b : Int))) : RatIs p q (mkRat a b.toNat) := by
  have h0 : b.toNat ≠ 0 := by omega
  have hg : b.toNat.gcd a.natAbs = Int.gcd a b := by
    rw [Nat.gcd_comm, show b.toNat = b.natAbs by omega]; rfl
  refine ⟨?_, .inl ?_⟩
  · rw [Rat.num_mkRat, if_neg h0, hg, ← Int.tdiv_eq_ediv_of_dvd (Int.gcd_dvd_left _ _)]
    exact hp
  · rw [Rat.den_mkRat, if_neg h0, hg, Int.natCast_ediv, show ((b.toNat : Nat) : Int) = b by omega, ← Int.tdiv_eq_ediv_of_nonneg (by omega)]
    exact hq
section
variable {w0 w : World} {T : List Res} {H D : List Nat} {l : List Ent} {b : Nat} {q r : Nm} {z : Rat}
theorem finR {v : Value} (hS : St w0 w (bag H D (⟨b, 0, q⟩ :: ⟨b, 2, r⟩ :: l) :: T)) (h : RatIs q r z) : ∃ r : B2, RatIs r.q r.r z ∧ Ending.returned v = .returned v ∧ St w0 w (bag r.H r.D (⟨b, 0, r.q⟩ :: ⟨b, 2, r.r⟩ :: l) :: T) := ⟨⟨H, D, q, r⟩, h, rfl, hS⟩
theorem finF (hS : St w0 w (bag H D (⟨b, 0, q⟩ :: ⟨b, 2, r⟩ :: l) :: T)) (h : RatIs q r z) : ∃ r : BR, RatIs r.q r.r z ∧ Ending.returned (.pointer (some ⟨b, 0, none⟩)) = .returned (.pointer (some ⟨r.b, 0, none⟩)) ∧ St w0 w (bag r.H r.D (⟨r.b, 0, r.q⟩ :: ⟨r.b, 2, r.r⟩ :: l) :: T) := ⟨⟨b, H, D, q, r⟩, h, rfl, hS⟩
end
/-- Where headers and digits lie. -/
structure BG where
  H : List Nat
  D : List Nat
theorem finG {w0 w : World} {T : List Res} {H D : List Nat} {l : List Ent} {v u : Value} (hS : St w0 w (bag H D l :: T)) (h : v = u) : ∃ r : BG, True ∧ Ending.returned v = .returned u ∧ St w0 w (bag r.H r.D l :: T) := ⟨⟨H, D⟩, trivial, by rw [h], hS⟩

set_option maxRecDepth 100000 in
set_option maxHeartbeats 4000000 in
theorem setfracR {w0 w : World} {T : List Res} {H D : List Nat} {l : List Ent} {b : Nat} {q r : Nm} (hS : St w0 w (bag H D (⟨b, 0, q⟩ :: ⟨b, 2, r⟩ :: l) :: T)) {b_x o_x : Nat} {x : Nm} {zx : Int} (mx : (⟨b_x, o_x, x⟩ : Ent) ∈ (⟨b, 0, q⟩ : Ent) :: ⟨b, 2, r⟩ :: l) {b_y o_y : Nat} {y : Nm} {zy : Int} (my : (⟨b_y, o_y, y⟩ : Ent) ∈ (⟨b, 0, q⟩ : Ent) :: ⟨b, 2, r⟩ :: l) (hx : x.is zx) (hy : y.is zy) (g0 : -18446744073709551616 < zx) (g1 : zx < 18446744073709551616) (g2 : 0 < zy) (g3 : zy < 18446744073709551616) :
    Calls Try.prog 106 #[.pointer (some ⟨b, 0, none⟩), .pointer (some ⟨b_x, o_x, none⟩), .pointer (some ⟨b_y, o_y, none⟩)] w fun e w' => ∃ r : B2, RatIs r.q r.r (mkRat zx zy.toNat) ∧ e = .returned (.pointer (some ⟨b, 0, none⟩)) ∧ St w0 w' (bag r.H r.D (⟨b, 0, r.q⟩ :: ⟨b, 2, r.r⟩ :: l) :: T) := by
  obtain ⟨e0, e1⟩ := gcd_facts (a := zx) g2
  have sq : (zx.tdiv (Int.gcd zx zy : Int)).natAbs ≤ zx.natAbs := by have h : (zx.tdiv (Int.gcd zx zy : Int)).natAbs = zx.natAbs / (Int.gcd zx zy : Int).natAbs := Int.natAbs_tdiv _ _; rw [h]; exact Nat.div_le_self _ _
  have sr : (zy.tdiv (Int.gcd zx zy : Int)).natAbs ≤ zy.natAbs := by have h : (zy.tdiv (Int.gcd zx zy : Int)).natAbs = zy.natAbs / (Int.gcd zx zy : Int).natAbs := Int.natAbs_tdiv _ _; rw [h]; exact Nat.div_le_self _ _
  refine calls_tr Try.func106 Try.ntmps106 rfl rfl hS ?_
  refine tr_seq ?_
  refine tr_region ?_
  refine tl_step rfl (oj_val (y_assign fe_c) ?_)
  refine tl_nil ?_
  refine tx_then ?_
  refine tr_seq ?_
  refine tr_region ?_
  refine tl_step rfl (oj_allocN 0 Try.zeroValue35 rfl (fun b_g H_g => ?_))
  refine tl_step rfl (oj_val (y_move (fe_t rfl)) ?_)
  refine tl_step rfl (oj_val (y_move (fe_t rfl)) ?_)
  refine tl_step rfl (oj_call2 Try.call47 fe_f (fel_cons (fe_t rfl) (fel_cons fe_c (fel_cons fe_c (fel_cons (fe_t rfl) (fel_cons (fe_t rfl) fel_nil))))) (fun w' hS => lift1 (p := fun n => n.is ((Int.gcd (zx) (zy) : Int))) 0 0 hS rfl rfl (fun T l' hm hS => gcdS hS (hm _ (List.mem_cons_of_mem _ mx)) (hm _ (List.mem_cons_of_mem _ my)) hx hy g0 g1 (by omega) g3)) (fun r1 hr1 => ?_))
  refine tl_step rfl (oj_val (y_assign (fe_t rfl)) ?_)
  refine tl_nil ?_
  refine tx_then ?_
  refine tr_seq ?_
  refine tr_region ?_
  refine tl_step rfl (oj_allocN 0 Try.zeroValue35 rfl (fun b_i H_i => ?_))
  refine tl_step rfl (oj_val (y_move (fe_t rfl)) ?_)
  refine tl_step rfl (oj_val (y_move (fe_t rfl)) ?_)
  refine tl_step rfl (oj_call2 Try.call164 fe_f (fel_cons (fe_t rfl) (fel_cons (fe_t rfl) (fel_cons (fe_t rfl) fel_nil))) (fun w' hS => lift1 (p := fun n => n.is ((zx).tdiv ((Int.gcd (zx) (zy) : Int)))) 0 0 hS rfl rfl (fun T l' hm hS => quoS hS (hm _ (List.mem_cons_of_mem _ (List.mem_cons_of_mem _ mx))) (hm _ (pget_mem 1 rfl)) hx hr1 g0 g1 (by omega) (sm_of (by omega) (by omega)))) (fun r2 hr2 => ?_))
  refine tl_step rfl (oj_allocN 0 Try.zeroValue35 rfl (fun b_j H_j => ?_))
  refine tl_step rfl (oj_val (y_move (fe_t rfl)) ?_)
  refine tl_step rfl (oj_val (y_move (fe_t rfl)) ?_)
  refine tl_step rfl (oj_call2 Try.call164 fe_f (fel_cons (fe_t rfl) (fel_cons (fe_t rfl) (fel_cons (fe_t rfl) fel_nil))) (fun w' hS => lift1 (p := fun n => n.is ((zy).tdiv ((Int.gcd (zx) (zy) : Int)))) 0 0 hS rfl rfl (fun T l' hm hS => quoS hS (hm _ (List.mem_cons_of_mem _ (List.mem_cons_of_mem _ (List.mem_cons_of_mem _ my)))) (hm _ (pget_mem 2 rfl)) hy hr1 (by omega) g3 (by omega) (sm_of (by omega) (by omega)))) (fun r3 hr3 => ?_))
  refine tl_step rfl (oj_val (y_assign (fe_t rfl)) ?_)
  refine tl_step rfl (oj_val (y_assign (fe_t rfl)) ?_)
  refine tl_nil ?_
  refine tx_then ?_
  refine tr_seq ?_
  refine tr_seq ?_
  refine tr_region ?_
  refine tl_step rfl (oj_val (y_move (fe_t rfl)) ?_)
  refine tl_step rfl (oj_val (y_nilCheck (fe_t rfl)) ?_)
  refine tl_step rfl (oj_val (y_fieldAddr (td := 4) Try.underlying35 rfl rfl Try.sizeOf4 (o' := 0) rfl (fe_t rfl)) ?_)
  refine tl_step rfl (oj_val (y_ldN1 0 Try.isAgg4 (fe_t rfl) rfl (pget_mem 0 rfl)) ?_)
  refine tl_nil ?_
  refine tx_then ?_
  refine tr_cond (fe_t rfl) (fun hq1 => ?_) (fun hq2 => ?_)
  · exfalso; have := (nm_neg hr3).1 hq1; have := Int.tdiv_nonneg (a := zy) (b := (Int.gcd zx zy : Int)) (by omega) (by omega); omega
  · refine tr_skip ?_
    refine tx_then ?_
    refine tr_seq ?_
    refine tr_region ?_
    refine tl_step rfl (oj_val (y_move (fe_t rfl)) ?_)
    refine tl_step rfl (oj_val (y_nilCheck (fe_t rfl)) ?_)
    refine tl_step rfl (oj_val (y_fieldAddr (td := 35) Try.underlying37 rfl rfl Try.sizeOf35 (o' := 0) rfl (fe_t rfl)) ?_)
    refine tl_step rfl (oj_val (y_move (fe_t rfl)) ?_)
    refine tl_step rfl (oj_call2 Try.call115 fe_f (fel_cons (fe_t rfl) (fel_cons (fe_t rfl) fel_nil)) (fun w' hS => lift1 (p := fun n => n.is ((zx).tdiv ((Int.gcd (zx) (zy) : Int)))) 0 3 hS rfl rfl (fun T l' hm hS => setB hS (hm _ (pget_mem 1 rfl)) hr2 (Nat.le_trans (nm_sm hr2 (sm_of (by omega) (by omega))) (by decide)))) (fun r4 hr4 => ?_))
    refine tl_nil ?_
    refine tx_then ?_
    refine tr_seq ?_
    refine tr_region ?_
    refine tl_step rfl (oj_val (y_move (fe_t rfl)) ?_)
    refine tl_step rfl (oj_val (y_nilCheck (fe_t rfl)) ?_)
    refine tl_step rfl (oj_val (y_fieldAddr (td := 35) Try.underlying37 rfl rfl Try.sizeOf35 (o' := 2) rfl (fe_t rfl)) ?_)
    refine tl_step rfl (oj_val (y_move (fe_t rfl)) ?_)
    refine tl_step rfl (oj_call2 Try.call115 fe_f (fel_cons (fe_t rfl) (fel_cons (fe_t rfl) fel_nil)) (fun w' hS => lift1 (p := fun n => n.is ((zy).tdiv ((Int.gcd (zx) (zy) : Int)))) 0 4 hS rfl rfl (fun T l' hm hS => setB hS (hm _ (pget_mem 0 rfl)) hr3 (Nat.le_trans (nm_sm hr3 (sm_of (by omega) (by omega))) (by decide)))) (fun r5 hr5 => ?_))
    refine tl_nil ?_
    refine tx_then ?_
    refine tr_seq ?_
    refine tr_region ?_
    refine tl_step rfl (oj_val (y_move (fe_t rfl)) ?_)
    refine tl_step rfl (oj_val (y_assign (fe_t rfl)) ?_)
    refine tl_nil ?_
    refine tx_then ?_
    refine tr_ret ?_
    refine tx_ret (res1 Try.results106 (rok_t rfl)) (fun w' hS => ?_)
    have hS := St.bagpick (es := [_, _, _, _, _]) 0 hS rfl [3, 4] rfl (by decide)
    have hS' : St w0 w' (bag _ _ ((⟨b, 0, _⟩ : Ent) :: (⟨b, 2, _⟩ : Ent) :: l) :: T) := hS
    exact finR hS' (ratis_frac g2 hr4 hr5)

set_option maxRecDepth 100000 in
set_option maxHeartbeats 1000000 in
theorem numR {w0 w : World} {T : List Res} {H D : List Nat} {l : List Ent} (hS : St w0 w (bag H D l :: T)) {b_x : Nat} {xa xb : Nm} {vx : Rat} (mxa : (⟨b_x, 0, xa⟩ : Ent) ∈ l) (mxb : (⟨b_x, 2, xb⟩ : Ent) ∈ l) (hx : RatIs xa xb vx) (s1 : Sm vx.num) :
    Calls Try.prog 33 #[.pointer (some ⟨b_x, 0, none⟩)] w fun e w' => ∃ r : BN, r.q.is (vx.num) ∧ e = .returned (.pointer (some ⟨r.b, 0, none⟩)) ∧ St w0 w' (bag r.H r.D (⟨r.b, 0, r.q⟩ :: l) :: T) := by
  refine calls_tr Try.func33 Try.ntmps33 rfl rfl hS ?_
  refine tr_seq ?_
  refine tr_region ?_
  refine tl_step rfl (oj_val (y_assign fe_c) ?_)
  refine tl_nil ?_
  refine tx_then ?_
  refine tr_seq ?_
  refine tr_region ?_
  refine tl_step rfl (oj_allocN 0 Try.zeroValue35 rfl (fun b_i H_i => ?_))
  refine tl_step rfl (oj_val (y_move (fe_t rfl)) ?_)
  refine tl_step rfl (oj_val (y_nilCheck (fe_t rfl)) ?_)
  refine tl_step rfl (oj_val (y_fieldAddr (td := 35) Try.underlying37 rfl rfl Try.sizeOf35 (o' := 0) rfl (fe_t rfl)) ?_)
  refine tl_step rfl (oj_call2 Try.call115 fe_f (fel_cons (fe_t rfl) (fel_cons (fe_t rfl) fel_nil)) (fun w' hS => lift1 (p := fun n => n.is (vx.num)) 0 0 hS rfl rfl (fun T l' hm hS => setB hS (hm _ (List.mem_cons_of_mem _ mxa)) hx.1 (Nat.le_trans (nm_sm hx.1 s1) (by decide)))) (fun r1 hr1 => ?_))
  refine tl_step rfl (oj_val (y_assign (fe_t rfl)) ?_)
  refine tl_nil ?_
  refine tx_then ?_
  refine tr_ret ?_
  refine tx_ret (res1 Try.results33 (rok_t rfl)) (fun w' hS => ?_)
  have hS' : St w0 w' (bag _ _ ((⟨b_i, 0, _⟩ : Ent) :: l) :: T) := hS
  exact finN hS' hr1

set_option maxRecDepth 100000 in
set_option maxHeartbeats 1000000 in
theorem denom_1 {w0 w : World} {T : List Res} {H D : List Nat} {l : List Ent} (hS : St w0 w (bag H D l :: T)) {b_x : Nat} {xa xb : Nm} {vx : Rat} (mxa : (⟨b_x, 0, xa⟩ : Ent) ∈ l) (mxb : (⟨b_x, 2, xb⟩ : Ent) ∈ l) (hx : RatIs xa xb vx) (hxb : xb.is (vx.den : Int)) (s2 : Sm (vx.den : Int)) :
    Calls Try.prog 34 #[.pointer (some ⟨b_x, 0, none⟩)] w fun e w' => ∃ r : BN, r.q.is ((vx.den : Int)) ∧ e = .returned (.pointer (some ⟨r.b, 0, none⟩)) ∧ St w0 w' (bag r.H r.D (⟨r.b, 0, r.q⟩ :: l) :: T) := by
  refine calls_tr Try.func34 Try.ntmps34 rfl rfl hS ?_
  refine tr_seq ?_
  refine tr_region ?_
  refine tl_step rfl (oj_val (y_assign fe_c) ?_)
  refine tl_nil ?_
  refine tx_then ?_
  refine tr_seq ?_
  refine tr_seq ?_
  refine tr_region ?_
  refine tl_step rfl (oj_val (y_move (fe_t rfl)) ?_)
  refine tl_step rfl (oj_val (y_nilCheck (fe_t rfl)) ?_)
  refine tl_step rfl (oj_val (y_fieldAddr (td := 35) Try.underlying37 rfl rfl Try.sizeOf35 (o' := 2) rfl (fe_t rfl)) ?_)
  refine tl_step rfl (oj_callv Try.call117 fe_f (fel_cons (fe_t rfl) fel_nil) (fun w' hS => of_eq (sign_any _ _ _ _ (bag_int hS 0 rfl mxb hxb))) ?_)
  refine tl_step rfl (oj_val (y_eq (fe_t rfl) fe_c) ?_)
  refine tl_nil ?_
  refine tx_then ?_
  refine tr_condp (fe_t rfl) (fun hq1 => ?_) (fun hq2 => ?_)
  · exfalso; have := Int.sign_eq_zero_iff_zero.1 hq1; have := vx.den_pos; omega
  · refine tr_skip ?_
    refine tx_then ?_
    refine tr_seq ?_
    refine tr_region ?_
    refine tl_step rfl (oj_allocN 0 Try.zeroValue35 rfl (fun b_i H_i => ?_))
    refine tl_step rfl (oj_val (y_move (fe_t rfl)) ?_)
    refine tl_step rfl (oj_val (y_nilCheck (fe_t rfl)) ?_)
    refine tl_step rfl (oj_val (y_fieldAddr (td := 35) Try.underlying37 rfl rfl Try.sizeOf35 (o' := 2) rfl (fe_t rfl)) ?_)
    refine tl_step rfl (oj_call2 Try.call115 fe_f (fel_cons (fe_t rfl) (fel_cons (fe_t rfl) fel_nil)) (fun w' hS => lift1 (p := fun n => n.is (vx.den)) 0 0 hS rfl rfl (fun T l' hm hS => setB hS (hm _ (List.mem_cons_of_mem _ mxb)) hxb (Nat.le_trans (nm_sm hxb s2) (by decide)))) (fun r2 hr2 => ?_))
    refine tl_step rfl (oj_val (y_assign (fe_t rfl)) ?_)
    refine tl_nil ?_
    refine tx_then ?_
    refine tr_ret ?_
    refine tx_ret (res1 Try.results34 (rok_t rfl)) (fun w' hS => ?_)
    have hS' : St w0 w' (bag _ _ ((⟨b_i, 0, _⟩ : Ent) :: l) :: T) := hS
    exact finN hS' hr2

set_option maxRecDepth 100000 in
set_option maxHeartbeats 1000000 in
theorem denom_2 {w0 w : World} {T : List Res} {H D : List Nat} {l : List Ent} (hS : St w0 w (bag H D l :: T)) {b_x : Nat} {xa xb : Nm} {vx : Rat} (mxa : (⟨b_x, 0, xa⟩ : Ent) ∈ l) (mxb : (⟨b_x, 2, xb⟩ : Ent) ∈ l) (hx : RatIs xa xb vx) (hxb : xb.is 0) (h0 : vx = 0) (s2 : Sm (vx.den : Int)) :
    Calls Try.prog 34 #[.pointer (some ⟨b_x, 0, none⟩)] w fun e w' => ∃ r : BN, r.q.is ((vx.den : Int)) ∧ e = .returned (.pointer (some ⟨r.b, 0, none⟩)) ∧ St w0 w' (bag r.H r.D (⟨r.b, 0, r.q⟩ :: l) :: T) := by
  refine calls_tr Try.func34 Try.ntmps34 rfl rfl hS ?_
  refine tr_seq ?_
  refine tr_region ?_
  refine tl_step rfl (oj_val (y_assign fe_c) ?_)
  refine tl_nil ?_
  refine tx_then ?_
  refine tr_seq ?_
  refine tr_seq ?_
  refine tr_region ?_
  refine tl_step rfl (oj_val (y_move (fe_t rfl)) ?_)
  refine tl_step rfl (oj_val (y_nilCheck (fe_t rfl)) ?_)
  refine tl_step rfl (oj_val (y_fieldAddr (td := 35) Try.underlying37 rfl rfl Try.sizeOf35 (o' := 2) rfl (fe_t rfl)) ?_)
  refine tl_step rfl (oj_callv Try.call117 fe_f (fel_cons (fe_t rfl) fel_nil) (fun w' hS => of_eq (sign_any _ _ _ _ (bag_int hS 0 rfl mxb hxb))) ?_)
  refine tl_step rfl (oj_val (y_eq (fe_t rfl) fe_c) ?_)
  refine tl_nil ?_
  refine tx_then ?_
  refine tr_condp (fe_t rfl) (fun hq1 => ?_) (fun hq2 => ?_)
  · refine tr_seq ?_
    refine tr_region ?_
    refine tl_step rfl (oj_call2 Try.call111 fe_f (fel_cons fe_c fel_nil) (fun w' hS => lift 0 hS rfl (fun T hS => newB hS 1 (by omega) (by omega))) (fun r2 hr2 => ?_))
    refine tl_step rfl (oj_val (y_assign (fe_t rfl)) ?_)
    refine tl_nil ?_
    refine tx_then ?_
    refine tr_ret ?_
    refine tx_then_ret ?_
    refine tx_ret (res1 Try.results34 (rok_t rfl)) (fun w' hS => ?_)
    have hS' : St w0 w' (bag _ _ ((⟨r2.b, 0, _⟩ : Ent) :: l) :: T) := hS
    exact finN hS' (by rw [h0]; exact hr2)
  · exfalso; exact hq2 rfl

theorem denomR {w0 w : World} {T : List Res} {H D : List Nat} {l : List Ent} (hS : St w0 w (bag H D l :: T)) {b_x : Nat} {xa xb : Nm} {vx : Rat} (mxa : (⟨b_x, 0, xa⟩ : Ent) ∈ l) (mxb : (⟨b_x, 2, xb⟩ : Ent) ∈ l) (hx : RatIs xa xb vx) (s2 : Sm (vx.den : Int)) :
    Calls Try.prog 34 #[.pointer (some ⟨b_x, 0, none⟩)] w fun e w' => ∃ r : BN, r.q.is ((vx.den : Int)) ∧ e = .returned (.pointer (some ⟨r.b, 0, none⟩)) ∧ St w0 w' (bag r.H r.D (⟨r.b, 0, r.q⟩ :: l) :: T) := by
  rcases hx.2 with h | ⟨h0, h⟩
  · exact denom_1 hS mxa mxb hx h s2
  · exact denom_2 hS mxa mxb hx h h0 s2

end Go.Proofs.Ytcpdelkamckmfaa.Big
