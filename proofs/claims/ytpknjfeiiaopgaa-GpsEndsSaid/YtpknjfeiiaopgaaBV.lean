/- The Int library, numbers held together: fractions: SetFrac, Num, Denom. -/
import Derived.Test.YtpknjfeiiaopgaaBG
namespace Go.Proofs.Ytpknjfeiiaopgaa.Big
open Go.RowKit Go.Proofs.Ytpknjfeiiaopgaa.E

/-- Two numbers are a fraction's. -/
def RatIs (p q : Nm) (v : Rat) : Prop := p.is v.num ∧ (q.is (v.den : Int) ∨ (v = 0 ∧ q.is 0))
theorem ratis_zero : RatIs nm0 nm0 0 := ⟨nm_zero, .inr ⟨rfl, nm_zero⟩⟩
theorem gcd_facts {a b : Int} (hb : 0 < b) : 0 < (Int.gcd a b : Int) ∧ (Int.gcd a b : Int) ≤ b := by
  have h1 : 0 < Int.gcd a b := Int.gcd_pos_of_ne_zero_right _ (by omega)
  have h2 : Int.gcd a b ≤ b.natAbs := Nat.gcd_le_right _ (by omega)
  omega
theorem ratis_frac {p q : Nm} {a b : Int} (hb : 0 < b) (hp : p.is (a.tdiv (Int.gcd a b : Int))) (hq : q.is (b.tdiv (Int.gcd a b : Int))) : RatIs p q (mkRat a b.toNat) := by
  have h0 : b.toNat ≠ 0 := by omega
  have hg : b.toNat.gcd a.natAbs = Int.gcd a b := by
    rw [Nat.gcd_comm, show b.toNat = b.natAbs by omega]; rfl
  refine ⟨?_, .inl ?_⟩
  · rw [Rat.num_mkRat, if_neg h0, hg, ← Int.tdiv_eq_ediv_of_dvd (Int.gcd_dvd_left _ _)]
    exact hp
  · rw [Rat.den_mkRat, if_neg h0, hg, Int.natCast_ediv, show ((b.toNat : Nat) : Int) = b by omega, ← Int.tdiv_eq_ediv_of_nonneg (by omega)]
    exact hq
section
variable {w0 w : World} {T : List Res} {H D : List Nat} {l : List Ent} {b : Nat} {q r : Nm} {z : Rat}
theorem finR {v : Value} (hS : St w0 w (bag H D (⟨b, 0, q⟩ :: ⟨b, 2, r⟩ :: l) :: T)) (h : RatIs q r z) : ∃ r : B2, RatIs r.q r.r z ∧ Ending.returned v = .returned v ∧ St w0 w (bag r.H r.D (⟨b, 0, r.q⟩ :: ⟨b, 2, r.r⟩ :: l) :: T) := ⟨⟨H, D, q, r⟩, h, rfl, hS⟩
theorem finF (hS : St w0 w (bag H D (⟨b, 0, q⟩ :: ⟨b, 2, r⟩ :: l) :: T)) (h : RatIs q r z) : ∃ r : BR, RatIs r.q r.r z ∧ Ending.returned (.pointer (some ⟨b, 0, none⟩)) = .returned (.pointer (some ⟨r.b, 0, none⟩)) ∧ St w0 w (bag r.H r.D (⟨r.b, 0, r.q⟩ :: ⟨r.b, 2, r.r⟩ :: l) :: T) := ⟨⟨b, H, D, q, r⟩, h, rfl, hS⟩
end
/-- Where headers and digits lie. -/
structure BG where
  H : List Nat
  D : List Nat
theorem finG {w0 w : World} {T : List Res} {H D : List Nat} {l : List Ent} {v u : Value} (hS : St w0 w (bag H D l :: T)) (h : v = u) : ∃ r : BG, True ∧ Ending.returned v = .returned u ∧ St w0 w (bag r.H r.D l :: T) := ⟨⟨H, D⟩, trivial, by rw [h], hS⟩

set_option maxRecDepth 100000 in
set_option maxHeartbeats 4000000 in
theorem setfracR {w0 w : World} {T : List Res} {H D : List Nat} {l : List Ent} {b : Nat} {q r : Nm} (hS : St w0 w (bag H D (⟨b, 0, q⟩ :: ⟨b, 2, r⟩ :: l) :: T)) {b_x o_x : Nat} {x : Nm} {zx : Int} (mx : (⟨b_x, o_x, x⟩ : Ent) ∈ (⟨b, 0, q⟩ : Ent) :: ⟨b, 2, r⟩ :: l) {b_y o_y : Nat} {y : Nm} {zy : Int} (my : (⟨b_y, o_y, y⟩ : Ent) ∈ (⟨b, 0, q⟩ : Ent) :: ⟨b, 2, r⟩ :: l) (hx : x.is zx) (hy : y.is zy) (g0 : -18446744073709551616 < zx) (g1 : zx < 18446744073709551616) (g2 : 0 < zy) (g3 : zy < 18446744073709551616) :
    Calls Try.prog 81 #[.pointer (some ⟨b, 0, none⟩), .pointer (some ⟨b_x, o_x, none⟩), .pointer (some ⟨b_y, o_y, none⟩)] w fun e w' => ∃ r : B2, RatIs r.q r.r (mkRat zx zy.toNat) ∧ e = .returned (.pointer (some ⟨b, 0, none⟩)) ∧ St w0 w' (bag r.H r.D (⟨b, 0, r.q⟩ :: ⟨b, 2, r.r⟩ :: l) :: T) := by
  obtain ⟨e0, e1⟩ := gcd_facts (a := zx) g2
  have sq : (zx.tdiv (Int.gcd zx zy : Int)).natAbs ≤ zx.natAbs := by have h : (zx.tdiv (Int.gcd zx zy : Int)).natAbs = zx.natAbs / (Int.gcd zx zy : Int).natAbs := Int.natAbs_tdiv _ _; rw [h]; exact Nat.div_le_self _ _
  have sr : (zy.tdiv (Int.gcd zx zy : Int)).natAbs ≤ zy.natAbs := by have h : (zy.tdiv (Int.gcd zx zy : Int)).natAbs = zy.natAbs / (Int.gcd zx zy : Int).natAbs := Int.natAbs_tdiv _ _; rw [h]; exact Nat.div_le_self _ _
  refine calls_tr Try.func81 Try.ntmps81 rfl rfl hS ?_
  refine tr_seq ?_
  refine tr_region ?_
  refine tl_step rfl (oj_val (y_assign fe_c) ?_)
  refine tl_nil ?_
  refine tx_then ?_
  refine tr_seq ?_
  refine tr_region ?_
  refine tl_step rfl (oj_allocN 0 Try.zeroValue148 rfl (fun b_g H_g => ?_))
  refine tl_step rfl (oj_val (y_move (fe_t rfl)) ?_)
  refine tl_step rfl (oj_val (y_move (fe_t rfl)) ?_)
  refine tl_step rfl (oj_call2 Try.call113 fe_f (fel_cons (fe_t rfl) (fel_cons fe_c (fel_cons fe_c (fel_cons (fe_t rfl) (fel_cons (fe_t rfl) fel_nil))))) (fun w' hS => lift1 (p := fun n => n.is ((Int.gcd (zx) (zy) : Int))) 0 0 hS rfl rfl (fun T l' hm hS => gcdS hS (hm _ (List.mem_cons_of_mem _ mx)) (hm _ (List.mem_cons_of_mem _ my)) hx hy g0 g1 (by omega) g3)) (fun r1 hr1 => ?_))
  refine tl_step rfl (oj_val (y_assign (fe_t rfl)) ?_)
  refine tl_nil ?_
  refine tx_then ?_
  refine tr_seq ?_
  refine tr_region ?_
  refine tl_step rfl (oj_allocN 0 Try.zeroValue148 rfl (fun b_i H_i => ?_))
  refine tl_step rfl (oj_val (y_move (fe_t rfl)) ?_)
  refine tl_step rfl (oj_val (y_move (fe_t rfl)) ?_)
  refine tl_step rfl (oj_call2 Try.call114 fe_f (fel_cons (fe_t rfl) (fel_cons (fe_t rfl) (fel_cons (fe_t rfl) fel_nil))) (fun w' hS => lift1 (p := fun n => n.is ((zx).tdiv ((Int.gcd (zx) (zy) : Int)))) 0 0 hS rfl rfl (fun T l' hm hS => quoS hS (hm _ (List.mem_cons_of_mem _ (List.mem_cons_of_mem _ mx))) (hm _ (pget_mem 1 rfl)) hx hr1 g0 g1 (by omega) (sm_of (by omega) (by omega)))) (fun r2 hr2 => ?_))
  refine tl_step rfl (oj_allocN 0 Try.zeroValue148 rfl (fun b_j H_j => ?_))
  refine tl_step rfl (oj_val (y_move (fe_t rfl)) ?_)
  refine tl_step rfl (oj_val (y_move (fe_t rfl)) ?_)
  refine tl_step rfl (oj_call2 Try.call114 fe_f (fel_cons (fe_t rfl) (fel_cons (fe_t rfl) (fel_cons (fe_t rfl) fel_nil))) (fun w' hS => lift1 (p := fun n => n.is ((zy).tdiv ((Int.gcd (zx) (zy) : Int)))) 0 0 hS rfl rfl (fun T l' hm hS => quoS hS (hm _ (List.mem_cons_of_mem _ (List.mem_cons_of_mem _ (List.mem_cons_of_mem _ my)))) (hm _ (pget_mem 2 rfl)) hy hr1 (by omega) g3 (by omega) (sm_of (by omega) (by omega)))) (fun r3 hr3 => ?_))
  refine tl_step rfl (oj_val (y_assign (fe_t rfl)) ?_)
  refine tl_step rfl (oj_val (y_assign (fe_t rfl)) ?_)
  refine tl_nil ?_
  refine tx_then ?_
  refine tr_seq ?_
  refine tr_seq ?_
  refine tr_region ?_
  refine tl_step rfl (oj_val (y_move (fe_t rfl)) ?_)
  refine tl_step rfl (oj_val (y_nilCheck (fe_t rfl)) ?_)
  refine tl_step rfl (oj_val (y_fieldAddr (td := 4) Try.underlying148 rfl rfl Try.sizeOf4 (o' := 0) rfl (fe_t rfl)) ?_)
  refine tl_step rfl (oj_val (y_ldN1 0 Try.isAgg4 (fe_t rfl) rfl (pget_mem 0 rfl)) ?_)
  refine tl_nil ?_
  refine tx_then ?_
  refine tr_cond (fe_t rfl) (fun hq1 => ?_) (fun hq2 => ?_)
  · exfalso; have := (nm_neg hr3).1 hq1; have := Int.tdiv_nonneg (a := zy) (b := (Int.gcd zx zy : Int)) (by omega) (by omega); omega
  · refine tr_skip ?_
    refine tx_then ?_
    refine tr_seq ?_
    refine tr_region ?_
    refine tl_step rfl (oj_val (y_move (fe_t rfl)) ?_)
    refine tl_step rfl (oj_val (y_nilCheck (fe_t rfl)) ?_)
    refine tl_step rfl (oj_val (y_fieldAddr (td := 148) Try.underlying150 rfl rfl Try.sizeOf148 (o' := 0) rfl (fe_t rfl)) ?_)
    refine tl_step rfl (oj_val (y_move (fe_t rfl)) ?_)
    refine tl_step rfl (oj_call2 Try.call116 fe_f (fel_cons (fe_t rfl) (fel_cons (fe_t rfl) fel_nil)) (fun w' hS => lift1 (p := fun n => n.is ((zx).tdiv ((Int.gcd (zx) (zy) : Int)))) 0 3 hS rfl rfl (fun T l' hm hS => setB hS (hm _ (pget_mem 1 rfl)) hr2 (Nat.le_trans (nm_sm hr2 (sm_of (by omega) (by omega))) (by decide)))) (fun r4 hr4 => ?_))
    refine tl_nil ?_
    refine tx_then ?_
    refine tr_seq ?_
    refine tr_region ?_
    refine tl_step rfl (oj_val (y_move (fe_t rfl)) ?_)
    refine tl_step rfl (oj_val (y_nilCheck (fe_t rfl)) ?_)
    refine tl_step rfl (oj_val (y_fieldAddr (td := 148) Try.underlying150 rfl rfl Try.sizeOf148 (o' := 2) rfl (fe_t rfl)) ?_)
    refine tl_step rfl (oj_val (y_move (fe_t rfl)) ?_)
    refine tl_step rfl (oj_call2 Try.call116 fe_f (fel_cons (fe_t rfl) (fel_cons (fe_t rfl) fel_nil)) (fun w' hS => lift1 (p := fun n => n.is ((zy).tdiv ((Int.gcd (zx) (zy) : Int)))) 0 4 hS rfl rfl (fun T l' hm hS => setB hS (hm _ (pget_mem 0 rfl)) hr3 (Nat.le_trans (nm_sm hr3 (sm_of (by omega) (by omega))) (by decide)))) (fun r5 hr5 => ?_))
    refine tl_nil ?_
    refine tx_then ?_
    refine tr_seq ?_
    refine tr_region ?_
    refine tl_step rfl (oj_val (y_move (fe_t rfl)) ?_)
    refine tl_step rfl (oj_val (y_assign (fe_t rfl)) ?_)
    refine tl_nil ?_
    refine tx_then ?_
    refine tr_ret ?_
    refine tx_ret (res1 Try.results81 (rok_t rfl)) (fun w' hS => ?_)
    have hS := St.bagpick (es := [_, _, _, _, _]) 0 hS rfl [3, 4] rfl (by decide)
    have hS' : St w0 w' (bag _ _ ((⟨b, 0, _⟩ : Ent) :: (⟨b, 2, _⟩ : Ent) :: l) :: T) := hS
    exact finR hS' (ratis_frac g2 hr4 hr5)

set_option maxRecDepth 100000 in
set_option maxHeartbeats 1000000 in
theorem numR {w0 w : World} {T : List Res} {H D : List Nat} {l : List Ent} (hS : St w0 w (bag H D l :: T)) {b_x : Nat} {xa xb : Nm} {vx : Rat} (mxa : (⟨b_x, 0, xa⟩ : Ent) ∈ l) (mxb : (⟨b_x, 2, xb⟩ : Ent) ∈ l) (hx : RatIs xa xb vx) (s1 : Sm vx.num) :
    Calls Try.prog 109 #[.pointer (some ⟨b_x, 0, none⟩)] w fun e w' => ∃ r : BN, r.q.is (vx.num) ∧ e = .returned (.pointer (some ⟨r.b, 0, none⟩)) ∧ St w0 w' (bag r.H r.D (⟨r.b, 0, r.q⟩ :: l) :: T) := by
  refine calls_tr Try.func109 Try.ntmps109 rfl rfl hS ?_
  refine tr_seq ?_
  refine tr_region ?_
  refine tl_step rfl (oj_val (y_assign fe_c) ?_)
  refine tl_nil ?_
  refine tx_then ?_
  refine tr_seq ?_
  refine tr_region ?_
  refine tl_step rfl (oj_allocN 0 Try.zeroValue148 rfl (fun b_i H_i => ?_))
  refine tl_step rfl (oj_val (y_move (fe_t rfl)) ?_)
  refine tl_step rfl (oj_val (y_nilCheck (fe_t rfl)) ?_)
  refine tl_step rfl (oj_val (y_fieldAddr (td := 148) Try.underlying150 rfl rfl Try.sizeOf148 (o' := 0) rfl (fe_t rfl)) ?_)
  refine tl_step rfl (oj_call2 Try.call116 fe_f (fel_cons (fe_t rfl) (fel_cons (fe_t rfl) fel_nil)) (fun w' hS => lift1 (p := fun n => n.is (vx.num)) 0 0 hS rfl rfl (fun T l' hm hS => setB hS (hm _ (List.mem_cons_of_mem _ mxa)) hx.1 (Nat.le_trans (nm_sm hx.1 s1) (by decide)))) (fun r1 hr1 => ?_))
  refine tl_step rfl (oj_val (y_assign (fe_t rfl)) ?_)
  refine tl_nil ?_
  refine tx_then ?_
  refine tr_ret ?_
  refine tx_ret (res1 Try.results109 (rok_t rfl)) (fun w' hS => ?_)
  have hS' : St w0 w' (bag _ _ ((⟨b_i, 0, _⟩ : Ent) :: l) :: T) := hS
  exact finN hS' hr1

set_option maxRecDepth 100000 in
set_option maxHeartbeats 1000000 in
theorem denom_1 {w0 w : World} {T : List Res} {H D : List Nat} {l : List Ent} (hS : St w0 w (bag H D l :: T)) {b_x : Nat} {xa xb : Nm} {vx : Rat} (mxa : (⟨b_x, 0, xa⟩ : Ent) ∈ l) (mxb : (⟨b_x, 2, xb⟩ : Ent) ∈ l) (hx : RatIs xa xb vx) (hxb : xb.is (vx.den : Int)) (s2 : Sm (vx.den : Int)) :
    Calls Try.prog 110 #[.pointer (some ⟨b_x, 0, none⟩)] w fun e w' => ∃ r : BN, r.q.is ((vx.den : Int)) ∧ e = .returned (.pointer (some ⟨r.b, 0, none⟩)) ∧ St w0 w' (bag r.H r.D (⟨r.b, 0, r.q⟩ :: l) :: T) := by
  refine calls_tr Try.func110 Try.ntmps110 rfl rfl hS ?_
  refine tr_seq ?_
  refine tr_region ?_
  refine tl_step rfl (oj_val (y_assign fe_c) ?_)
  refine tl_nil ?_
  refine tx_then ?_
  refine tr_seq ?_
  refine tr_seq ?_
  refine tr_region ?_
  refine tl_step rfl (oj_val (y_move (fe_t rfl)) ?_)
  refine tl_step rfl (oj_val (y_nilCheck (fe_t rfl)) ?_)
  refine tl_step rfl (oj_val (y_fieldAddr (td := 148) Try.underlying150 rfl rfl Try.sizeOf148 (o' := 2) rfl (fe_t rfl)) ?_)
  refine tl_step rfl (oj_callv Try.call108 fe_f (fel_cons (fe_t rfl) fel_nil) (fun w' hS => of_eq (sign_any _ _ _ _ (bag_int hS 0 rfl mxb hxb))) ?_)
  refine tl_step rfl (oj_val (y_eq (fe_t rfl) fe_c) ?_)
  refine tl_nil ?_
  refine tx_then ?_
  refine tr_condp (fe_t rfl) (fun hq1 => ?_) (fun hq2 => ?_)
  · exfalso; have := Int.sign_eq_zero_iff_zero.1 hq1; have := vx.den_pos; omega
  · refine tr_skip ?_
    refine tx_then ?_
    refine tr_seq ?_
    refine tr_region ?_
    refine tl_step rfl (oj_allocN 0 Try.zeroValue148 rfl (fun b_i H_i => ?_))
    refine tl_step rfl (oj_val (y_move (fe_t rfl)) ?_)
    refine tl_step rfl (oj_val (y_nilCheck (fe_t rfl)) ?_)
    refine tl_step rfl (oj_val (y_fieldAddr (td := 148) Try.underlying150 rfl rfl Try.sizeOf148 (o' := 2) rfl (fe_t rfl)) ?_)
    refine tl_step rfl (oj_call2 Try.call116 fe_f (fel_cons (fe_t rfl) (fel_cons (fe_t rfl) fel_nil)) (fun w' hS => lift1 (p := fun n => n.is (vx.den)) 0 0 hS rfl rfl (fun T l' hm hS => setB hS (hm _ (List.mem_cons_of_mem _ mxb)) hxb (Nat.le_trans (nm_sm hxb s2) (by decide)))) (fun r2 hr2 => ?_))
    refine tl_step rfl (oj_val (y_assign (fe_t rfl)) ?_)
    refine tl_nil ?_
    refine tx_then ?_
    refine tr_ret ?_
    refine tx_ret (res1 Try.results110 (rok_t rfl)) (fun w' hS => ?_)
    have hS' : St w0 w' (bag _ _ ((⟨b_i, 0, _⟩ : Ent) :: l) :: T) := hS
    exact finN hS' hr2

set_option maxRecDepth 100000 in
set_option maxHeartbeats 1000000 in
theorem denom_2 {w0 w : World} {T : List Res} {H D : List Nat} {l : List Ent} (hS : St w0 w (bag H D l :: T)) {b_x : Nat} {xa xb : Nm} {vx : Rat} (mxa : (⟨b_x, 0, xa⟩ : Ent) ∈ l) (mxb : (⟨b_x, 2, xb⟩ : Ent) ∈ l) (hx : RatIs xa xb vx) (hxb : xb.is 0) (h0 : vx = 0) (s2 : Sm (vx.den : Int)) :
    Calls Try.prog 110 #[.pointer (some ⟨b_x, 0, none⟩)] w fun e w' => ∃ r : BN, r.q.is ((vx.den : Int)) ∧ e = .returned (.pointer (some ⟨r.b, 0, none⟩)) ∧ St w0 w' (bag r.H r.D (⟨r.b, 0, r.q⟩ :: l) :: T) := by
  refine calls_tr Try.func110 Try.ntmps110 rfl rfl hS ?_
  refine tr_seq ?_
  refine tr_region ?_
  refine tl_step rfl (oj_val (y_assign fe_c) ?_)
  refine tl_nil ?_
  refine tx_then ?_
  refine tr_seq ?_
  refine tr_seq ?_
  refine tr_region ?_
  refine tl_step rfl (oj_val (y_move (fe_t rfl)) ?_)
  refine tl_step rfl (oj_val (y_nilCheck (fe_t rfl)) ?_)
  refine tl_step rfl (oj_val (y_fieldAddr (td := 148) Try.underlying150 rfl rfl Try.sizeOf148 (o' := 2) rfl (fe_t rfl)) ?_)
  refine tl_step rfl (oj_callv Try.call108 fe_f (fel_cons (fe_t rfl) fel_nil) (fun w' hS => of_eq (sign_any _ _ _ _ (bag_int hS 0 rfl mxb hxb))) ?_)
  refine tl_step rfl (oj_val (y_eq (fe_t rfl) fe_c) ?_)
  refine tl_nil ?_
  refine tx_then ?_
  refine tr_condp (fe_t rfl) (fun hq1 => ?_) (fun hq2 => ?_)
  · refine tr_seq ?_
    refine tr_region ?_
    refine tl_step rfl (oj_call2 Try.call82 fe_f (fel_cons fe_c fel_nil) (fun w' hS => lift 0 hS rfl (fun T hS => newB hS 1 (by omega) (by omega))) (fun r2 hr2 => ?_))
    refine tl_step rfl (oj_val (y_assign (fe_t rfl)) ?_)
    refine tl_nil ?_
    refine tx_then ?_
    refine tr_ret ?_
    refine tx_then_ret ?_
    refine tx_ret (res1 Try.results110 (rok_t rfl)) (fun w' hS => ?_)
    have hS' : St w0 w' (bag _ _ ((⟨r2.b, 0, _⟩ : Ent) :: l) :: T) := hS
    exact finN hS' (by rw [h0]; exact hr2)
  · exfalso; exact hq2 rfl

theorem denomR {w0 w : World} {T : List Res} {H D : List Nat} {l : List Ent} (hS : St w0 w (bag H D l :: T)) {b_x : Nat} {xa xb : Nm} {vx : Rat} (mxa : (⟨b_x, 0, xa⟩ : Ent) ∈ l) (mxb : (⟨b_x, 2, xb⟩ : Ent) ∈ l) (hx : RatIs xa xb vx) (s2 : Sm (vx.den : Int)) :
    Calls Try.prog 110 #[.pointer (some ⟨b_x, 0, none⟩)] w fun e w' => ∃ r : BN, r.q.is ((vx.den : Int)) ∧ e = .returned (.pointer (some ⟨r.b, 0, none⟩)) ∧ St w0 w' (bag r.H r.D (⟨r.b, 0, r.q⟩ :: l) :: T) := by
  rcases hx.2 with h | ⟨h0, h⟩
  · exact denom_1 hS mxa mxb hx h s2
  · exact denom_2 hS mxa mxb hx h h0 s2

end Go.Proofs.Ytpknjfeiiaopgaa.Big

namespace Go.Proofs.Ytpknjfeiiaopgaa.Big
open Go.RowKit Go.Proofs.Ytpknjfeiiaopgaa.E

theorem rat_add {p q : Nm} {x y : Rat} (h : RatIs p q (mkRat (x.num * (y.den : Int) + y.num * (x.den : Int)) ((x.den : Int) * (y.den : Int)).toNat)) : RatIs p q (x + y) := by
  rw [Rat.add_def, Rat.normalize_eq_mkRat]
  rwa [show ((x.den : Int) * (y.den : Int)).toNat = x.den * y.den by rw [← Int.natCast_mul]; rfl] at h
theorem rat_mul {p q : Nm} {x y : Rat} (h : RatIs p q (mkRat (x.num * y.num) ((x.den : Int) * (y.den : Int)).toNat)) : RatIs p q (x * y) := by
  rw [Rat.mul_def, Rat.normalize_eq_mkRat]
  rwa [show ((x.den : Int) * (y.den : Int)).toNat = x.den * y.den by rw [← Int.natCast_mul]; rfl] at h
theorem rat_neg {p q : Nm} {x : Rat} (h : RatIs p q (mkRat (-x.num) (x.den : Int).toNat)) : RatIs p q (-x) := by
  have e : mkRat (-x.num) (x.den : Int).toNat = -x := by
    rw [show (x.den : Int).toNat = x.den from rfl, ← Rat.neg_mkRat, Rat.mkRat_self]
  rwa [e] at h
theorem neg_nd (x : Rat) : (-x).num = -x.num ∧ (-x).den = x.den := ⟨rfl, rfl⟩
theorem rat_set {p q : Nm} {x : Rat} (h : RatIs p q (mkRat x.num (x.den : Int).toNat)) : RatIs p q x := by
  rwa [show (x.den : Int).toNat = x.den from rfl, Rat.mkRat_self] at h
theorem rat_inv {p q : Nm} {x : Rat} (hx : 0 < x.num) (h : RatIs p q (mkRat (x.den : Int) x.num.toNat)) : RatIs p q x⁻¹ := by
  have e : mkRat (x.den : Int) x.num.toNat = x⁻¹ := by
    rw [Rat.inv_def, ← Rat.divInt_ofNat, show ((x.num.toNat : Nat) : Int) = x.num by omega]
  rwa [e] at h

set_option maxRecDepth 100000 in
set_option maxHeartbeats 4000000 in
theorem addR {w0 w : World} {T : List Res} {H D : List Nat} {l : List Ent} {b : Nat} {q r : Nm} (hS : St w0 w (bag H D (⟨b, 0, q⟩ :: ⟨b, 2, r⟩ :: l) :: T)) {b_x : Nat} {xa xb : Nm} {vx : Rat} (mxa : (⟨b_x, 0, xa⟩ : Ent) ∈ (⟨b, 0, q⟩ : Ent) :: ⟨b, 2, r⟩ :: l) (mxb : (⟨b_x, 2, xb⟩ : Ent) ∈ (⟨b, 0, q⟩ : Ent) :: ⟨b, 2, r⟩ :: l) {b_y : Nat} {ya yb : Nm} {vy : Rat} (mya : (⟨b_y, 0, ya⟩ : Ent) ∈ (⟨b, 0, q⟩ : Ent) :: ⟨b, 2, r⟩ :: l) (myb : (⟨b_y, 2, yb⟩ : Ent) ∈ (⟨b, 0, q⟩ : Ent) :: ⟨b, 2, r⟩ :: l) (hx : RatIs xa xb vx) (hy : RatIs ya yb vy) (g0 : -9223372036854775808 < vx.num * (vy.den : Int)) (g1 : vx.num * (vy.den : Int) < 9223372036854775808) (g2 : -9223372036854775808 < vy.num * (vx.den : Int)) (g3 : vy.num * (vx.den : Int) < 9223372036854775808) (g4 : (vx.den : Int) * (vy.den : Int) < 18446744073709551616) :
    Calls Try.prog 78 #[.pointer (some ⟨b, 0, none⟩), .pointer (some ⟨b_x, 0, none⟩), .pointer (some ⟨b_y, 0, none⟩)] w fun e w' => ∃ r : B2, RatIs r.q r.r (vx + vy) ∧ e = .returned (.pointer (some ⟨b, 0, none⟩)) ∧ St w0 w' (bag r.H r.D (⟨b, 0, r.q⟩ :: ⟨b, 2, r.r⟩ :: l) :: T) := by
  have dx := vx.den_pos
  have dy := vy.den_pos
  have nx : vx.num.natAbs ≤ (vx.num * (vy.den : Int)).natAbs := by rw [Int.natAbs_mul]; exact Nat.le_mul_of_pos_right _ (by omega)
  have ny : vy.num.natAbs ≤ (vy.num * (vx.den : Int)).natAbs := by rw [Int.natAbs_mul]; exact Nat.le_mul_of_pos_right _ (by omega)
  have ex : (vx.den : Int) ≤ (vx.den : Int) * (vy.den : Int) := by have := Int.mul_le_mul_of_nonneg_left (show (1 : Int) ≤ vy.den by omega) (show 0 ≤ (vx.den : Int) by omega); rwa [Int.mul_one] at this
  have ey : (vy.den : Int) ≤ (vx.den : Int) * (vy.den : Int) := by have := Int.mul_le_mul_of_nonneg_right (show (1 : Int) ≤ vx.den by omega) (show 0 ≤ (vy.den : Int) by omega); rwa [Int.one_mul] at this
  have sx : Sm vx.num := sm_of (by omega) (by omega)
  have sy : Sm vy.num := sm_of (by omega) (by omega)
  have tx : Sm (vx.den : Int) := sm_of (by omega) (by omega)
  have ty : Sm (vy.den : Int) := sm_of (by omega) (by omega)
  refine calls_tr Try.func78 Try.ntmps78 rfl rfl hS ?_
  refine tr_seq ?_
  refine tr_region ?_
  refine tl_step rfl (oj_val (y_assign fe_c) ?_)
  refine tl_nil ?_
  refine tx_then ?_
  refine tr_seq ?_
  refine tr_region ?_
  refine tl_step rfl (oj_allocN 0 Try.zeroValue148 rfl (fun b_i H_i => ?_))
  refine tl_step rfl (oj_val (y_move (fe_t rfl)) ?_)
  refine tl_step rfl (oj_call2 Try.call109 fe_f (fel_cons (fe_t rfl) fel_nil) (fun w' hS => lift 0 hS rfl (fun T hS => numR hS (List.mem_cons_of_mem _ mxa) (List.mem_cons_of_mem _ mxb) hx sx)) (fun r1 hr1 => ?_))
  refine tl_step rfl (oj_val (y_move (fe_t rfl)) ?_)
  refine tl_step rfl (oj_call2 Try.call110 fe_f (fel_cons (fe_t rfl) fel_nil) (fun w' hS => lift 0 hS rfl (fun T hS => denomR hS (List.mem_cons_of_mem _ (List.mem_cons_of_mem _ mya)) (List.mem_cons_of_mem _ (List.mem_cons_of_mem _ myb)) hy ty)) (fun r2 hr2 => ?_))
  refine tl_step rfl (oj_call2 Try.call103 fe_f (fel_cons (fe_t rfl) (fel_cons (fe_t rfl) (fel_cons (fe_t rfl) fel_nil))) (fun w' hS => lift1 (p := fun n => n.is (((vx).num) * (((vy).den : Int)))) 0 2 hS rfl rfl (fun T l' hm hS => mulB hS (hm _ (pget_mem 1 rfl)) (hm _ (pget_mem 0 rfl)) hr1 hr2 (Nat.le_trans (nm_sm hr1 (sm_of (by omega) (by omega))) (by decide)) (Nat.le_trans (nm_sm hr2 (sm_of (by omega) (by omega))) (by decide)))) (fun r3 hr3 => ?_))
  refine tl_step rfl (oj_allocN 0 Try.zeroValue148 rfl (fun b_j H_j => ?_))
  refine tl_step rfl (oj_val (y_move (fe_t rfl)) ?_)
  refine tl_step rfl (oj_call2 Try.call109 fe_f (fel_cons (fe_t rfl) fel_nil) (fun w' hS => lift 0 hS rfl (fun T hS => numR hS (List.mem_cons_of_mem _ (List.mem_cons_of_mem _ (List.mem_cons_of_mem _ (List.mem_cons_of_mem _ mya)))) (List.mem_cons_of_mem _ (List.mem_cons_of_mem _ (List.mem_cons_of_mem _ (List.mem_cons_of_mem _ myb)))) hy sy)) (fun r4 hr4 => ?_))
  refine tl_step rfl (oj_val (y_move (fe_t rfl)) ?_)
  refine tl_step rfl (oj_call2 Try.call110 fe_f (fel_cons (fe_t rfl) fel_nil) (fun w' hS => lift 0 hS rfl (fun T hS => denomR hS (List.mem_cons_of_mem _ (List.mem_cons_of_mem _ (List.mem_cons_of_mem _ (List.mem_cons_of_mem _ (List.mem_cons_of_mem _ mxa))))) (List.mem_cons_of_mem _ (List.mem_cons_of_mem _ (List.mem_cons_of_mem _ (List.mem_cons_of_mem _ (List.mem_cons_of_mem _ mxb))))) hx tx)) (fun r5 hr5 => ?_))
  refine tl_step rfl (oj_call2 Try.call103 fe_f (fel_cons (fe_t rfl) (fel_cons (fe_t rfl) (fel_cons (fe_t rfl) fel_nil))) (fun w' hS => lift1 (p := fun n => n.is (((vy).num) * (((vx).den : Int)))) 0 2 hS rfl rfl (fun T l' hm hS => mulB hS (hm _ (pget_mem 1 rfl)) (hm _ (pget_mem 0 rfl)) hr4 hr5 (Nat.le_trans (nm_sm hr4 (sm_of (by omega) (by omega))) (by decide)) (Nat.le_trans (nm_sm hr5 (sm_of (by omega) (by omega))) (by decide)))) (fun r6 hr6 => ?_))
  refine tl_step rfl (oj_val (y_assign (fe_t rfl)) ?_)
  refine tl_step rfl (oj_val (y_assign (fe_t rfl)) ?_)
  refine tl_nil ?_
  refine tx_then ?_
  refine tr_seq ?_
  refine tr_region ?_
  refine tl_step rfl (oj_val (y_move (fe_t rfl)) ?_)
  refine tl_step rfl (oj_val (y_move (fe_t rfl)) ?_)
  refine tl_step rfl (oj_val (y_move (fe_t rfl)) ?_)
  refine tl_step rfl (oj_val (y_move (fe_t rfl)) ?_)
  refine tl_step rfl (oj_call2 Try.call104 fe_f (fel_cons (fe_t rfl) (fel_cons (fe_t rfl) (fel_cons (fe_t rfl) fel_nil))) (fun w' hS => lift1 (p := fun n => n.is ((((vx).num) * (((vy).den : Int))) + (((vy).num) * (((vx).den : Int))))) 0 5 hS rfl rfl (fun T l' hm hS => addB hS (hm _ (pget_mem 5 rfl)) (hm _ (pget_mem 2 rfl)) hr3 hr6 (sm_of (by omega) (by omega)) (sm_of (by omega) (by omega)))) (fun r7 hr7 => ?_))
  refine tl_step rfl (oj_allocN 0 Try.zeroValue148 rfl (fun b_k H_k => ?_))
  refine tl_step rfl (oj_val (y_move (fe_t rfl)) ?_)
  refine tl_step rfl (oj_call2 Try.call110 fe_f (fel_cons (fe_t rfl) fel_nil) (fun w' hS => lift 0 hS rfl (fun T hS => denomR hS (List.mem_cons_of_mem _ (List.mem_cons_of_mem _ (List.mem_cons_of_mem _ (List.mem_cons_of_mem _ (List.mem_cons_of_mem _ (List.mem_cons_of_mem _ (List.mem_cons_of_mem _ mxa))))))) (List.mem_cons_of_mem _ (List.mem_cons_of_mem _ (List.mem_cons_of_mem _ (List.mem_cons_of_mem _ (List.mem_cons_of_mem _ (List.mem_cons_of_mem _ (List.mem_cons_of_mem _ mxb))))))) hx tx)) (fun r8 hr8 => ?_))
  refine tl_step rfl (oj_val (y_move (fe_t rfl)) ?_)
  refine tl_step rfl (oj_call2 Try.call110 fe_f (fel_cons (fe_t rfl) fel_nil) (fun w' hS => lift 0 hS rfl (fun T hS => denomR hS (List.mem_cons_of_mem _ (List.mem_cons_of_mem _ (List.mem_cons_of_mem _ (List.mem_cons_of_mem _ (List.mem_cons_of_mem _ (List.mem_cons_of_mem _ (List.mem_cons_of_mem _ (List.mem_cons_of_mem _ mya)))))))) (List.mem_cons_of_mem _ (List.mem_cons_of_mem _ (List.mem_cons_of_mem _ (List.mem_cons_of_mem _ (List.mem_cons_of_mem _ (List.mem_cons_of_mem _ (List.mem_cons_of_mem _ (List.mem_cons_of_mem _ myb)))))))) hy ty)) (fun r9 hr9 => ?_))
  refine tl_step rfl (oj_call2 Try.call103 fe_f (fel_cons (fe_t rfl) (fel_cons (fe_t rfl) (fel_cons (fe_t rfl) fel_nil))) (fun w' hS => lift1 (p := fun n => n.is ((((vx).den : Int)) * (((vy).den : Int)))) 0 2 hS rfl rfl (fun T l' hm hS => mulB hS (hm _ (pget_mem 1 rfl)) (hm _ (pget_mem 0 rfl)) hr8 hr9 (Nat.le_trans (nm_sm hr8 (sm_of (by omega) (by omega))) (by decide)) (Nat.le_trans (nm_sm hr9 (sm_of (by omega) (by omega))) (by decide)))) (fun r10 hr10 => ?_))
  refine tl_step rfl (oj_call2 Try.call81 fe_f (fel_cons (fe_t rfl) (fel_cons (fe_t rfl) (fel_cons (fe_t rfl) fel_nil))) (fun w' hS => lift2 (p := fun m n => RatIs m n (mkRat ((((vx).num) * (((vy).den : Int))) + (((vy).num) * (((vx).den : Int)))) ((((vx).den : Int)) * (((vy).den : Int))).toNat)) 0 9 10 hS rfl rfl rfl rfl (fun T l' hm hS => setfracR hS (hm _ (pget_mem 8 rfl)) (hm _ (pget_mem 2 rfl)) hr7 hr10 (by omega) (by omega) (Int.mul_pos (by omega) (by omega)) g4)) (fun r11 hr11 => ?_))
  refine tl_step rfl (oj_val (y_assign (fe_t rfl)) ?_)
  refine tl_nil ?_
  refine tx_then ?_
  refine tr_ret ?_
  refine tx_ret (res1 Try.results78 (rok_t rfl)) (fun w' hS => ?_)
  have hS := St.bagpick (es := [_, _, _, _, _, _, _, _, _, _, _]) 0 hS rfl [9, 10] rfl (by decide)
  have hS' : St w0 w' (bag _ _ ((⟨b, 0, _⟩ : Ent) :: (⟨b, 2, _⟩ : Ent) :: l) :: T) := hS
  exact finR hS' (rat_add hr11)

set_option maxRecDepth 100000 in
set_option maxHeartbeats 4000000 in
theorem mulR {w0 w : World} {T : List Res} {H D : List Nat} {l : List Ent} {b : Nat} {q r : Nm} (hS : St w0 w (bag H D (⟨b, 0, q⟩ :: ⟨b, 2, r⟩ :: l) :: T)) {b_x : Nat} {xa xb : Nm} {vx : Rat} (mxa : (⟨b_x, 0, xa⟩ : Ent) ∈ (⟨b, 0, q⟩ : Ent) :: ⟨b, 2, r⟩ :: l) (mxb : (⟨b_x, 2, xb⟩ : Ent) ∈ (⟨b, 0, q⟩ : Ent) :: ⟨b, 2, r⟩ :: l) {b_y : Nat} {ya yb : Nm} {vy : Rat} (mya : (⟨b_y, 0, ya⟩ : Ent) ∈ (⟨b, 0, q⟩ : Ent) :: ⟨b, 2, r⟩ :: l) (myb : (⟨b_y, 2, yb⟩ : Ent) ∈ (⟨b, 0, q⟩ : Ent) :: ⟨b, 2, r⟩ :: l) (hx : RatIs xa xb vx) (hy : RatIs ya yb vy) (g0 : -18446744073709551616 < vx.num * vy.num) (g1 : vx.num * vy.num < 18446744073709551616) (sx : Sm vx.num) (sy : Sm vy.num) (g4 : (vx.den : Int) * (vy.den : Int) < 18446744073709551616) :
    Calls Try.prog 79 #[.pointer (some ⟨b, 0, none⟩), .pointer (some ⟨b_x, 0, none⟩), .pointer (some ⟨b_y, 0, none⟩)] w fun e w' => ∃ r : B2, RatIs r.q r.r (vx * vy) ∧ e = .returned (.pointer (some ⟨b, 0, none⟩)) ∧ St w0 w' (bag r.H r.D (⟨b, 0, r.q⟩ :: ⟨b, 2, r.r⟩ :: l) :: T) := by
  have dx := vx.den_pos
  have dy := vy.den_pos
  have ex : (vx.den : Int) ≤ (vx.den : Int) * (vy.den : Int) := by have := Int.mul_le_mul_of_nonneg_left (show (1 : Int) ≤ vy.den by omega) (show 0 ≤ (vx.den : Int) by omega); rwa [Int.mul_one] at this
  have ey : (vy.den : Int) ≤ (vx.den : Int) * (vy.den : Int) := by have := Int.mul_le_mul_of_nonneg_right (show (1 : Int) ≤ vx.den by omega) (show 0 ≤ (vy.den : Int) by omega); rwa [Int.one_mul] at this
  have tx : Sm (vx.den : Int) := sm_of (by omega) (by omega)
  have ty : Sm (vy.den : Int) := sm_of (by omega) (by omega)
  refine calls_tr Try.func79 Try.ntmps79 rfl rfl hS ?_
  refine tr_seq ?_
  refine tr_region ?_
  refine tl_step rfl (oj_val (y_assign fe_c) ?_)
  refine tl_nil ?_
  refine tx_then ?_
  refine tr_seq ?_
  refine tr_region ?_
  refine tl_step rfl (oj_val (y_move (fe_t rfl)) ?_)
  refine tl_step rfl (oj_allocN 0 Try.zeroValue148 rfl (fun b_i H_i => ?_))
  refine tl_step rfl (oj_val (y_move (fe_t rfl)) ?_)
  refine tl_step rfl (oj_call2 Try.call109 fe_f (fel_cons (fe_t rfl) fel_nil) (fun w' hS => lift 0 hS rfl (fun T hS => numR hS (List.mem_cons_of_mem _ mxa) (List.mem_cons_of_mem _ mxb) hx sx)) (fun r1 hr1 => ?_))
  refine tl_step rfl (oj_val (y_move (fe_t rfl)) ?_)
  refine tl_step rfl (oj_call2 Try.call109 fe_f (fel_cons (fe_t rfl) fel_nil) (fun w' hS => lift 0 hS rfl (fun T hS => numR hS (List.mem_cons_of_mem _ (List.mem_cons_of_mem _ mya)) (List.mem_cons_of_mem _ (List.mem_cons_of_mem _ myb)) hy sy)) (fun r2 hr2 => ?_))
  refine tl_step rfl (oj_call2 Try.call103 fe_f (fel_cons (fe_t rfl) (fel_cons (fe_t rfl) (fel_cons (fe_t rfl) fel_nil))) (fun w' hS => lift1 (p := fun n => n.is (((vx).num) * ((vy).num))) 0 2 hS rfl rfl (fun T l' hm hS => mulB hS (hm _ (pget_mem 1 rfl)) (hm _ (pget_mem 0 rfl)) hr1 hr2 (Nat.le_trans (nm_sm hr1 sx) (by decide)) (Nat.le_trans (nm_sm hr2 sy) (by decide)))) (fun r3 hr3 => ?_))
  refine tl_step rfl (oj_allocN 0 Try.zeroValue148 rfl (fun b_j H_j => ?_))
  refine tl_step rfl (oj_val (y_move (fe_t rfl)) ?_)
  refine tl_step rfl (oj_call2 Try.call110 fe_f (fel_cons (fe_t rfl) fel_nil) (fun w' hS => lift 0 hS rfl (fun T hS => denomR hS (List.mem_cons_of_mem _ (List.mem_cons_of_mem _ (List.mem_cons_of_mem _ (List.mem_cons_of_mem _ mxa)))) (List.mem_cons_of_mem _ (List.mem_cons_of_mem _ (List.mem_cons_of_mem _ (List.mem_cons_of_mem _ mxb)))) hx tx)) (fun r4 hr4 => ?_))
  refine tl_step rfl (oj_val (y_move (fe_t rfl)) ?_)
  refine tl_step rfl (oj_call2 Try.call110 fe_f (fel_cons (fe_t rfl) fel_nil) (fun w' hS => lift 0 hS rfl (fun T hS => denomR hS (List.mem_cons_of_mem _ (List.mem_cons_of_mem _ (List.mem_cons_of_mem _ (List.mem_cons_of_mem _ (List.mem_cons_of_mem _ mya))))) (List.mem_cons_of_mem _ (List.mem_cons_of_mem _ (List.mem_cons_of_mem _ (List.mem_cons_of_mem _ (List.mem_cons_of_mem _ myb))))) hy ty)) (fun r5 hr5 => ?_))
  refine tl_step rfl (oj_call2 Try.call103 fe_f (fel_cons (fe_t rfl) (fel_cons (fe_t rfl) (fel_cons (fe_t rfl) fel_nil))) (fun w' hS => lift1 (p := fun n => n.is ((((vx).den : Int)) * (((vy).den : Int)))) 0 2 hS rfl rfl (fun T l' hm hS => mulB hS (hm _ (pget_mem 1 rfl)) (hm _ (pget_mem 0 rfl)) hr4 hr5 (Nat.le_trans (nm_sm hr4 (sm_of (by omega) (by omega))) (by decide)) (Nat.le_trans (nm_sm hr5 (sm_of (by omega) (by omega))) (by decide)))) (fun r6 hr6 => ?_))
  refine tl_step rfl (oj_call2 Try.call81 fe_f (fel_cons (fe_t rfl) (fel_cons (fe_t rfl) (fel_cons (fe_t rfl) fel_nil))) (fun w' hS => lift2 (p := fun m n => RatIs m n (mkRat (((vx).num) * ((vy).num)) ((((vx).den : Int)) * (((vy).den : Int))).toNat)) 0 6 7 hS rfl rfl rfl rfl (fun T l' hm hS => setfracR hS (hm _ (pget_mem 5 rfl)) (hm _ (pget_mem 2 rfl)) hr3 hr6 g0 g1 (Int.mul_pos (by omega) (by omega)) g4)) (fun r7 hr7 => ?_))
  refine tl_step rfl (oj_val (y_assign (fe_t rfl)) ?_)
  refine tl_nil ?_
  refine tx_then ?_
  refine tr_ret ?_
  refine tx_ret (res1 Try.results79 (rok_t rfl)) (fun w' hS => ?_)
  have hS := St.bagpick (es := [_, _, _, _, _, _, _, _]) 0 hS rfl [6, 7] rfl (by decide)
  have hS' : St w0 w' (bag _ _ ((⟨b, 0, _⟩ : Ent) :: (⟨b, 2, _⟩ : Ent) :: l) :: T) := hS
  exact finR hS' (rat_mul hr7)

end Go.Proofs.Ytpknjfeiiaopgaa.Big

namespace Go.Proofs.Ytpknjfeiiaopgaa.Big
open Go.RowKit Go.Proofs.Ytpknjfeiiaopgaa.E

set_option maxRecDepth 100000 in
set_option maxHeartbeats 4000000 in
theorem negR {w0 w : World} {T : List Res} {H D : List Nat} {l : List Ent} {b : Nat} {q r : Nm} (hS : St w0 w (bag H D (⟨b, 0, q⟩ :: ⟨b, 2, r⟩ :: l) :: T)) {b_x : Nat} {xa xb : Nm} {vx : Rat} (mxa : (⟨b_x, 0, xa⟩ : Ent) ∈ (⟨b, 0, q⟩ : Ent) :: ⟨b, 2, r⟩ :: l) (mxb : (⟨b_x, 2, xb⟩ : Ent) ∈ (⟨b, 0, q⟩ : Ent) :: ⟨b, 2, r⟩ :: l) (hx : RatIs xa xb vx) (g0 : -18446744073709551616 < vx.num) (g1 : vx.num < 18446744073709551616) (g4 : (vx.den : Int) < 18446744073709551616) :
    Calls Try.prog 112 #[.pointer (some ⟨b, 0, none⟩), .pointer (some ⟨b_x, 0, none⟩)] w fun e w' => ∃ r : B2, RatIs r.q r.r (-vx) ∧ e = .returned (.pointer (some ⟨b, 0, none⟩)) ∧ St w0 w' (bag r.H r.D (⟨b, 0, r.q⟩ :: ⟨b, 2, r.r⟩ :: l) :: T) := by
  have dx := vx.den_pos
  have sx : Sm vx.num := sm_of (by omega) (by omega)
  have tx : Sm (vx.den : Int) := sm_of (by omega) (by omega)
  refine calls_tr Try.func112 Try.ntmps112 rfl rfl hS ?_
  refine tr_seq ?_
  refine tr_region ?_
  refine tl_step rfl (oj_val (y_assign fe_c) ?_)
  refine tl_nil ?_
  refine tx_then ?_
  refine tr_seq ?_
  refine tr_region ?_
  refine tl_step rfl (oj_val (y_move (fe_t rfl)) ?_)
  refine tl_step rfl (oj_allocN 0 Try.zeroValue148 rfl (fun b_i H_i => ?_))
  refine tl_step rfl (oj_val (y_move (fe_t rfl)) ?_)
  refine tl_step rfl (oj_val (y_nilCheck (fe_t rfl)) ?_)
  refine tl_step rfl (oj_val (y_fieldAddr (td := 148) Try.underlying150 rfl rfl Try.sizeOf148 (o' := 0) rfl (fe_t rfl)) ?_)
  refine tl_step rfl (oj_call2 Try.call115 fe_f (fel_cons (fe_t rfl) (fel_cons (fe_t rfl) fel_nil)) (fun w' hS => lift1 (p := fun n => n.is (-(vx.num))) 0 0 hS rfl rfl (fun T l' hm hS => negB hS (hm _ (List.mem_cons_of_mem _ mxa)) hx.1 (Nat.le_trans (nm_sm hx.1 sx) (by decide)))) (fun r1 hr1 => ?_))
  refine tl_step rfl (oj_val (y_move (fe_t rfl)) ?_)
  refine tl_step rfl (oj_call2 Try.call110 fe_f (fel_cons (fe_t rfl) fel_nil) (fun w' hS => lift 0 hS rfl (fun T hS => denomR hS (List.mem_cons_of_mem _ mxa) (List.mem_cons_of_mem _ mxb) hx tx)) (fun r2 hr2 => ?_))
  refine tl_step rfl (oj_call2 Try.call81 fe_f (fel_cons (fe_t rfl) (fel_cons (fe_t rfl) (fel_cons (fe_t rfl) fel_nil))) (fun w' hS => lift2 (p := fun m n => RatIs m n (mkRat (-(vx.num)) (((vx).den : Int)).toNat)) 0 2 3 hS rfl rfl rfl rfl (fun T l' hm hS => setfracR hS (hm _ (pget_mem 1 rfl)) (hm _ (pget_mem 0 rfl)) hr1 hr2 (by omega) (by omega) (by omega) g4)) (fun r3 hr3 => ?_))
  refine tl_step rfl (oj_val (y_assign (fe_t rfl)) ?_)
  refine tl_nil ?_
  refine tx_then ?_
  refine tr_ret ?_
  refine tx_ret (res1 Try.results112 (rok_t rfl)) (fun w' hS => ?_)
  have hS := St.bagpick (es := [_, _, _, _]) 0 hS rfl [2, 3] rfl (by decide)
  have hS' : St w0 w' (bag _ _ ((⟨b, 0, _⟩ : Ent) :: (⟨b, 2, _⟩ : Ent) :: l) :: T) := hS
  exact finR hS' (rat_neg hr3)

set_option maxRecDepth 100000 in
set_option maxHeartbeats 4000000 in
theorem setR {w0 w : World} {T : List Res} {H D : List Nat} {l : List Ent} {b : Nat} {q r : Nm} (hS : St w0 w (bag H D (⟨b, 0, q⟩ :: ⟨b, 2, r⟩ :: l) :: T)) {b_x : Nat} {xa xb : Nm} {vx : Rat} (mxa : (⟨b_x, 0, xa⟩ : Ent) ∈ (⟨b, 0, q⟩ : Ent) :: ⟨b, 2, r⟩ :: l) (mxb : (⟨b_x, 2, xb⟩ : Ent) ∈ (⟨b, 0, q⟩ : Ent) :: ⟨b, 2, r⟩ :: l) (hx : RatIs xa xb vx) (g0 : -18446744073709551616 < vx.num) (g1 : vx.num < 18446744073709551616) (g4 : (vx.den : Int) < 18446744073709551616) :
    Calls Try.prog 76 #[.pointer (some ⟨b, 0, none⟩), .pointer (some ⟨b_x, 0, none⟩)] w fun e w' => ∃ r : B2, RatIs r.q r.r (vx) ∧ e = .returned (.pointer (some ⟨b, 0, none⟩)) ∧ St w0 w' (bag r.H r.D (⟨b, 0, r.q⟩ :: ⟨b, 2, r.r⟩ :: l) :: T) := by
  have dx := vx.den_pos
  have sx : Sm vx.num := sm_of (by omega) (by omega)
  have tx : Sm (vx.den : Int) := sm_of (by omega) (by omega)
  refine calls_tr Try.func76 Try.ntmps76 rfl rfl hS ?_
  refine tr_seq ?_
  refine tr_region ?_
  refine tl_step rfl (oj_val (y_assign fe_c) ?_)
  refine tl_nil ?_
  refine tx_then ?_
  refine tr_seq ?_
  refine tr_region ?_
  refine tl_step rfl (oj_val (y_move (fe_t rfl)) ?_)
  refine tl_step rfl (oj_val (y_move (fe_t rfl)) ?_)
  refine tl_step rfl (oj_call2 Try.call109 fe_f (fel_cons (fe_t rfl) fel_nil) (fun w' hS => lift 0 hS rfl (fun T hS => numR hS mxa mxb hx sx)) (fun r1 hr1 => ?_))
  refine tl_step rfl (oj_val (y_move (fe_t rfl)) ?_)
  refine tl_step rfl (oj_call2 Try.call110 fe_f (fel_cons (fe_t rfl) fel_nil) (fun w' hS => lift 0 hS rfl (fun T hS => denomR hS (List.mem_cons_of_mem _ mxa) (List.mem_cons_of_mem _ mxb) hx tx)) (fun r2 hr2 => ?_))
  refine tl_step rfl (oj_call2 Try.call81 fe_f (fel_cons (fe_t rfl) (fel_cons (fe_t rfl) (fel_cons (fe_t rfl) fel_nil))) (fun w' hS => lift2 (p := fun m n => RatIs m n (mkRat ((vx).num) (((vx).den : Int)).toNat)) 0 2 3 hS rfl rfl rfl rfl (fun T l' hm hS => setfracR hS (hm _ (pget_mem 1 rfl)) (hm _ (pget_mem 0 rfl)) hr1 hr2 g0 g1 (by omega) g4)) (fun r3 hr3 => ?_))
  refine tl_step rfl (oj_val (y_assign (fe_t rfl)) ?_)
  refine tl_nil ?_
  refine tx_then ?_
  refine tr_ret ?_
  refine tx_ret (res1 Try.results76 (rok_t rfl)) (fun w' hS => ?_)
  have hS := St.bagpick (es := [_, _, _, _]) 0 hS rfl [2, 3] rfl (by decide)
  have hS' : St w0 w' (bag _ _ ((⟨b, 0, _⟩ : Ent) :: (⟨b, 2, _⟩ : Ent) :: l) :: T) := hS
  exact finR hS' (rat_set hr3)

set_option maxRecDepth 100000 in
set_option maxHeartbeats 4000000 in
theorem invR {w0 w : World} {T : List Res} {H D : List Nat} {l : List Ent} {b : Nat} {q r : Nm} (hS : St w0 w (bag H D (⟨b, 0, q⟩ :: ⟨b, 2, r⟩ :: l) :: T)) {b_x : Nat} {xa xb : Nm} {vx : Rat} (mxa : (⟨b_x, 0, xa⟩ : Ent) ∈ (⟨b, 0, q⟩ : Ent) :: ⟨b, 2, r⟩ :: l) (mxb : (⟨b_x, 2, xb⟩ : Ent) ∈ (⟨b, 0, q⟩ : Ent) :: ⟨b, 2, r⟩ :: l) (hx : RatIs xa xb vx) (g0 : -18446744073709551616 < vx.num) (g1 : vx.num < 18446744073709551616) (g4 : (vx.den : Int) < 18446744073709551616) (hp : 0 < vx.num) :
    Calls Try.prog 111 #[.pointer (some ⟨b, 0, none⟩), .pointer (some ⟨b_x, 0, none⟩)] w fun e w' => ∃ r : B2, RatIs r.q r.r (vx⁻¹) ∧ e = .returned (.pointer (some ⟨b, 0, none⟩)) ∧ St w0 w' (bag r.H r.D (⟨b, 0, r.q⟩ :: ⟨b, 2, r.r⟩ :: l) :: T) := by
  have dx := vx.den_pos
  have sx : Sm vx.num := sm_of (by omega) (by omega)
  have tx : Sm (vx.den : Int) := sm_of (by omega) (by omega)
  refine calls_tr Try.func111 Try.ntmps111 rfl rfl hS ?_
  refine tr_seq ?_
  refine tr_region ?_
  refine tl_step rfl (oj_val (y_assign fe_c) ?_)
  refine tl_nil ?_
  refine tx_then ?_
  refine tr_seq ?_
  refine tr_region ?_
  refine tl_step rfl (oj_val (y_move (fe_t rfl)) ?_)
  refine tl_step rfl (oj_val (y_move (fe_t rfl)) ?_)
  refine tl_step rfl (oj_call2 Try.call110 fe_f (fel_cons (fe_t rfl) fel_nil) (fun w' hS => lift 0 hS rfl (fun T hS => denomR hS mxa mxb hx tx)) (fun r1 hr1 => ?_))
  refine tl_step rfl (oj_val (y_move (fe_t rfl)) ?_)
  refine tl_step rfl (oj_call2 Try.call109 fe_f (fel_cons (fe_t rfl) fel_nil) (fun w' hS => lift 0 hS rfl (fun T hS => numR hS (List.mem_cons_of_mem _ mxa) (List.mem_cons_of_mem _ mxb) hx sx)) (fun r2 hr2 => ?_))
  refine tl_step rfl (oj_call2 Try.call81 fe_f (fel_cons (fe_t rfl) (fel_cons (fe_t rfl) (fel_cons (fe_t rfl) fel_nil))) (fun w' hS => lift2 (p := fun m n => RatIs m n (mkRat (((vx).den : Int)) ((vx).num).toNat)) 0 2 3 hS rfl rfl rfl rfl (fun T l' hm hS => setfracR hS (hm _ (pget_mem 1 rfl)) (hm _ (pget_mem 0 rfl)) hr1 hr2 (by omega) (by omega) hp g1)) (fun r3 hr3 => ?_))
  refine tl_step rfl (oj_val (y_assign (fe_t rfl)) ?_)
  refine tl_nil ?_
  refine tx_then ?_
  refine tr_ret ?_
  refine tx_ret (res1 Try.results111 (rok_t rfl)) (fun w' hS => ?_)
  have hS := St.bagpick (es := [_, _, _, _]) 0 hS rfl [2, 3] rfl (by decide)
  have hS' : St w0 w' (bag _ _ ((⟨b, 0, _⟩ : Ent) :: (⟨b, 2, _⟩ : Ent) :: l) :: T) := hS
  exact finR hS' (rat_inv hp hr3)

set_option maxRecDepth 100000 in
set_option maxHeartbeats 4000000 in
theorem subR {w0 w : World} {T : List Res} {H D : List Nat} {l : List Ent} {b : Nat} {q r : Nm} (hS : St w0 w (bag H D (⟨b, 0, q⟩ :: ⟨b, 2, r⟩ :: l) :: T)) {b_x : Nat} {xa xb : Nm} {vx : Rat} (mxa : (⟨b_x, 0, xa⟩ : Ent) ∈ (⟨b, 0, q⟩ : Ent) :: ⟨b, 2, r⟩ :: l) (mxb : (⟨b_x, 2, xb⟩ : Ent) ∈ (⟨b, 0, q⟩ : Ent) :: ⟨b, 2, r⟩ :: l) {b_y : Nat} {ya yb : Nm} {vy : Rat} (mya : (⟨b_y, 0, ya⟩ : Ent) ∈ (⟨b, 0, q⟩ : Ent) :: ⟨b, 2, r⟩ :: l) (myb : (⟨b_y, 2, yb⟩ : Ent) ∈ (⟨b, 0, q⟩ : Ent) :: ⟨b, 2, r⟩ :: l) (hx : RatIs xa xb vx) (hy : RatIs ya yb vy) (g0 : -9223372036854775808 < vx.num * (vy.den : Int)) (g1 : vx.num * (vy.den : Int) < 9223372036854775808) (g2 : -9223372036854775808 < vy.num * (vx.den : Int)) (g3 : vy.num * (vx.den : Int) < 9223372036854775808) (g4 : (vx.den : Int) * (vy.den : Int) < 18446744073709551616) :
    Calls Try.prog 80 #[.pointer (some ⟨b, 0, none⟩), .pointer (some ⟨b_x, 0, none⟩), .pointer (some ⟨b_y, 0, none⟩)] w fun e w' => ∃ r : B2, RatIs r.q r.r (vx - vy) ∧ e = .returned (.pointer (some ⟨b, 0, none⟩)) ∧ St w0 w' (bag r.H r.D (⟨b, 0, r.q⟩ :: ⟨b, 2, r.r⟩ :: l) :: T) := by
  have dx := vx.den_pos
  have dy := vy.den_pos
  have nx : vx.num.natAbs ≤ (vx.num * (vy.den : Int)).natAbs := by rw [Int.natAbs_mul]; exact Nat.le_mul_of_pos_right _ (by omega)
  have ny : vy.num.natAbs ≤ (vy.num * (vx.den : Int)).natAbs := by rw [Int.natAbs_mul]; exact Nat.le_mul_of_pos_right _ (by omega)
  have ex : (vx.den : Int) ≤ (vx.den : Int) * (vy.den : Int) := by have := Int.mul_le_mul_of_nonneg_left (show (1 : Int) ≤ vy.den by omega) (show 0 ≤ (vx.den : Int) by omega); rwa [Int.mul_one] at this
  have ey : (vy.den : Int) ≤ (vx.den : Int) * (vy.den : Int) := by have := Int.mul_le_mul_of_nonneg_right (show (1 : Int) ≤ vx.den by omega) (show 0 ≤ (vy.den : Int) by omega); rwa [Int.one_mul] at this
  have sx : Sm vx.num := sm_of (by omega) (by omega)
  have sy : Sm vy.num := sm_of (by omega) (by omega)
  have tx : Sm (vx.den : Int) := sm_of (by omega) (by omega)
  have ty : Sm (vy.den : Int) := sm_of (by omega) (by omega)
  refine calls_tr Try.func80 Try.ntmps80 rfl rfl hS ?_
  refine tr_seq ?_
  refine tr_region ?_
  refine tl_step rfl (oj_val (y_assign fe_c) ?_)
  refine tl_nil ?_
  refine tx_then ?_
  refine tr_seq ?_
  refine tr_region ?_
  refine tl_step rfl (oj_val (y_move (fe_t rfl)) ?_)
  refine tl_step rfl (oj_val (y_move (fe_t rfl)) ?_)
  refine tl_step rfl (oj_allocR 0 Try.zeroValue150 rfl (fun b_t H_t => ?_))
  refine tl_step rfl (oj_val (y_move (fe_t rfl)) ?_)
  refine tl_step rfl (oj_call2 Try.call112 fe_f (fel_cons (fe_t rfl) (fel_cons (fe_t rfl) fel_nil)) (fun w' hS => lift2 (p := fun m n => RatIs m n (-(vy))) 0 0 1 hS rfl rfl rfl rfl (fun T l' hm hS => negR hS (hm _ (List.mem_cons_of_mem _ (List.mem_cons_of_mem _ mya))) (hm _ (List.mem_cons_of_mem _ (List.mem_cons_of_mem _ myb))) hy (by omega) (by omega) (by omega))) (fun r1 hr1 => ?_))
  refine tl_step rfl (oj_call2 Try.call78 fe_f (fel_cons (fe_t rfl) (fel_cons (fe_t rfl) (fel_cons (fe_t rfl) fel_nil))) (fun w' hS => lift2 (p := fun m n => RatIs m n (vx + (-(vy)))) 0 2 3 hS rfl rfl rfl rfl (fun T l' hm hS => addR hS (hm _ (List.mem_cons_of_mem _ (List.mem_cons_of_mem _ mxa))) (hm _ (List.mem_cons_of_mem _ (List.mem_cons_of_mem _ mxb))) (hm _ (pget_mem 0 rfl)) (hm _ (pget_mem 1 rfl)) hx hr1 (by rw [(neg_nd _).2]; exact g0) (by rw [(neg_nd _).2]; exact g1) (by rw [(neg_nd _).1, Int.neg_mul]; omega) (by rw [(neg_nd _).1, Int.neg_mul]; omega) (by rw [(neg_nd _).2]; exact g4))) (fun r2 hr2 => ?_))
  refine tl_step rfl (oj_val (y_assign (fe_t rfl)) ?_)
  refine tl_nil ?_
  refine tx_then ?_
  refine tr_ret ?_
  refine tx_ret (res1 Try.results80 (rok_t rfl)) (fun w' hS => ?_)
  have hS := St.bagpick (es := [_, _, _, _]) 0 hS rfl [2, 3] rfl (by decide)
  have hS' : St w0 w' (bag _ _ ((⟨b, 0, _⟩ : Ent) :: (⟨b, 2, _⟩ : Ent) :: l) :: T) := hS
  exact finR hS' (by rw [Rat.sub_eq_add_neg]; exact hr2)

set_option maxRecDepth 100000 in
set_option maxHeartbeats 2000000 in
theorem newR {w0 w : World} {T : List Res} {H D : List Nat} {l : List Ent} (hS : St w0 w (bag H D l :: T)) (va vb : Int) (g0 : -9223372036854775808 ≤ va) (g1 : va ≤ 9223372036854775807) (g2 : 0 < vb) (g3 : vb ≤ 9223372036854775807) :
    Calls Try.prog 38 #[.int .i64 va, .int .i64 vb] w fun e w' => ∃ r : BR, RatIs r.q r.r (mkRat va vb.toNat) ∧ e = .returned (.pointer (some ⟨r.b, 0, none⟩)) ∧ St w0 w' (bag r.H r.D (⟨r.b, 0, r.q⟩ :: ⟨r.b, 2, r.r⟩ :: l) :: T) := by
  refine calls_tr Try.func38 Try.ntmps38 rfl rfl hS ?_
  refine tr_seq ?_
  refine tr_region ?_
  refine tl_step rfl (oj_val (y_assign fe_c) ?_)
  refine tl_nil ?_
  refine tx_then ?_
  refine tr_seq ?_
  refine tr_region ?_
  refine tl_step rfl (oj_allocR 0 Try.zeroValue150 rfl (fun b_z H_z => ?_))
  refine tl_step rfl (oj_val (y_move (fe_t rfl)) ?_)
  refine tl_step rfl (oj_call2 Try.call82 fe_f (fel_cons (fe_t rfl) fel_nil) (fun w' hS => lift 0 hS rfl (fun T hS => newB hS va (by omega) (by omega))) (fun r1 hr1 => ?_))
  refine tl_step rfl (oj_val (y_move (fe_t rfl)) ?_)
  refine tl_step rfl (oj_call2 Try.call82 fe_f (fel_cons (fe_t rfl) fel_nil) (fun w' hS => lift 0 hS rfl (fun T hS => newB hS vb (by omega) (by omega))) (fun r2 hr2 => ?_))
  refine tl_step rfl (oj_call2 Try.call81 fe_f (fel_cons (fe_t rfl) (fel_cons (fe_t rfl) (fel_cons (fe_t rfl) fel_nil))) (fun w' hS => lift2 (p := fun m n => RatIs m n (mkRat (va) (vb).toNat)) 0 2 3 hS rfl rfl rfl rfl (fun T l' hm hS => setfracR hS (hm _ (pget_mem 1 rfl)) (hm _ (pget_mem 0 rfl)) hr1 hr2 (by omega) (by omega) (by omega) (by omega))) (fun r3 hr3 => ?_))
  refine tl_step rfl (oj_val (y_assign (fe_t rfl)) ?_)
  refine tl_nil ?_
  refine tx_then ?_
  refine tr_ret ?_
  refine tx_ret (res1 Try.results38 (rok_t rfl)) (fun w' hS => ?_)
  have hS := St.bagpick (es := [_, _, _, _]) 0 hS rfl [2, 3] rfl (by decide)
  have hS' : St w0 w' (bag _ _ ((⟨b_z, 0, _⟩ : Ent) :: (⟨b_z, 2, _⟩ : Ent) :: l) :: T) := hS
  exact finF hS' hr3

theorem inv_nd {x : Rat} (h : 0 < x.num) : (x⁻¹).num = (x.den : Int) ∧ ((x⁻¹).den : Int) = x.num := by
  have hn : x.num ≠ 0 := by omega
  have e : x⁻¹ = mkRat (x.den : Int) x.num.toNat := by
    rw [Rat.inv_def, ← Rat.divInt_ofNat, show ((x.num.toNat : Nat) : Int) = x.num by omega]
  have hc : x.num.toNat.gcd (x.den : Int).natAbs = 1 := by
    have := x.reduced
    rw [show x.num.toNat = x.num.natAbs by omega]
    exact this
  rw [e, Rat.num_mkRat, Rat.den_mkRat, if_neg (by omega), if_neg (by omega), hc]
  simp; omega
set_option maxRecDepth 100000 in
set_option maxHeartbeats 4000000 in
theorem quoR {w0 w : World} {T : List Res} {H D : List Nat} {l : List Ent} {b : Nat} {q r : Nm} (hS : St w0 w (bag H D (⟨b, 0, q⟩ :: ⟨b, 2, r⟩ :: l) :: T)) {b_x : Nat} {xa xb : Nm} {vx : Rat} (mxa : (⟨b_x, 0, xa⟩ : Ent) ∈ (⟨b, 0, q⟩ : Ent) :: ⟨b, 2, r⟩ :: l) (mxb : (⟨b_x, 2, xb⟩ : Ent) ∈ (⟨b, 0, q⟩ : Ent) :: ⟨b, 2, r⟩ :: l) {b_y : Nat} {ya yb : Nm} {vy : Rat} (mya : (⟨b_y, 0, ya⟩ : Ent) ∈ (⟨b, 0, q⟩ : Ent) :: ⟨b, 2, r⟩ :: l) (myb : (⟨b_y, 2, yb⟩ : Ent) ∈ (⟨b, 0, q⟩ : Ent) :: ⟨b, 2, r⟩ :: l) (hx : RatIs xa xb vx) (hy : RatIs ya yb vy) (g0 : -18446744073709551616 < vx.num * (vy.den : Int)) (g1 : vx.num * (vy.den : Int) < 18446744073709551616) (sx : Sm vx.num) (hp : 0 < vy.num) (g4 : (vx.den : Int) * vy.num < 18446744073709551616) (g5 : (vy.den : Int) < 18446744073709551616) :
    Calls Try.prog 77 #[.pointer (some ⟨b, 0, none⟩), .pointer (some ⟨b_x, 0, none⟩), .pointer (some ⟨b_y, 0, none⟩)] w fun e w' => ∃ r : B2, RatIs r.q r.r (vx / vy) ∧ e = .returned (.pointer (some ⟨b, 0, none⟩)) ∧ St w0 w' (bag r.H r.D (⟨b, 0, r.q⟩ :: ⟨b, 2, r.r⟩ :: l) :: T) := by
  have dx := vx.den_pos
  have dy := vy.den_pos
  have ey : vy.num ≤ (vx.den : Int) * vy.num := by have := Int.mul_le_mul_of_nonneg_right (show (1 : Int) ≤ vx.den by omega) (show 0 ≤ vy.num by omega); rwa [Int.one_mul] at this
  have ty : Sm (vy.den : Int) := sm_of (by omega) (by omega)
  obtain ⟨en, ed⟩ := inv_nd hp
  refine calls_tr Try.func77 Try.ntmps77 rfl rfl hS ?_
  refine tr_seq ?_
  refine tr_region ?_
  refine tl_step rfl (oj_val (y_assign fe_c) ?_)
  refine tl_nil ?_
  refine tx_then ?_
  refine tr_seq ?_
  refine tr_region ?_
  refine tl_step rfl (oj_val (y_move (fe_t rfl)) ?_)
  refine tl_step rfl (oj_val (y_move (fe_t rfl)) ?_)
  refine tl_step rfl (oj_allocR 0 Try.zeroValue150 rfl (fun b_t H_t => ?_))
  refine tl_step rfl (oj_val (y_move (fe_t rfl)) ?_)
  refine tl_step rfl (oj_call2 Try.call111 fe_f (fel_cons (fe_t rfl) (fel_cons (fe_t rfl) fel_nil)) (fun w' hS => lift2 (p := fun m n => RatIs m n ((vy)⁻¹)) 0 0 1 hS rfl rfl rfl rfl (fun T l' hm hS => invR hS (hm _ (List.mem_cons_of_mem _ (List.mem_cons_of_mem _ mya))) (hm _ (List.mem_cons_of_mem _ (List.mem_cons_of_mem _ myb))) hy (by omega) (by omega) (by omega) hp)) (fun r1 hr1 => ?_))
  refine tl_step rfl (oj_call2 Try.call79 fe_f (fel_cons (fe_t rfl) (fel_cons (fe_t rfl) (fel_cons (fe_t rfl) fel_nil))) (fun w' hS => lift2 (p := fun m n => RatIs m n (vx * ((vy)⁻¹))) 0 2 3 hS rfl rfl rfl rfl (fun T l' hm hS => mulR hS (hm _ (List.mem_cons_of_mem _ (List.mem_cons_of_mem _ mxa))) (hm _ (List.mem_cons_of_mem _ (List.mem_cons_of_mem _ mxb))) (hm _ (pget_mem 0 rfl)) (hm _ (pget_mem 1 rfl)) hx hr1 (by rw [en]; exact g0) (by rw [en]; exact g1) sx (by rw [en]; exact ty) (by rw [ed]; exact g4))) (fun r2 hr2 => ?_))
  refine tl_step rfl (oj_val (y_assign (fe_t rfl)) ?_)
  refine tl_nil ?_
  refine tx_then ?_
  refine tr_ret ?_
  refine tx_ret (res1 Try.results77 (rok_t rfl)) (fun w' hS => ?_)
  have hS := St.bagpick (es := [_, _, _, _]) 0 hS rfl [2, 3] rfl (by decide)
  have hS' : St w0 w' (bag _ _ ((⟨b, 0, _⟩ : Ent) :: (⟨b, 2, _⟩ : Ent) :: l) :: T) := hS
  exact finR hS' (by rw [Rat.div_def]; exact hr2)

set_option maxRecDepth 100000 in
set_option maxHeartbeats 1000000 in
theorem signR {w0 w : World} {T : List Res} {H D : List Nat} {l : List Ent} (hS : St w0 w (bag H D l :: T)) {b_x : Nat} {xa xb : Nm} {vx : Rat} (mxa : (⟨b_x, 0, xa⟩ : Ent) ∈ l) (mxb : (⟨b_x, 2, xb⟩ : Ent) ∈ l) (hx : RatIs xa xb vx) :
    Calls Try.prog 75 #[.pointer (some ⟨b_x, 0, none⟩)] w fun e w' => ∃ r : BG, True ∧ e = .returned (.int .i64 vx.num.sign) ∧ St w0 w' (bag r.H r.D l :: T) := by
  refine calls_tr Try.func75 Try.ntmps75 rfl rfl hS ?_
  refine tr_seq ?_
  refine tr_region ?_
  refine tl_step rfl (oj_val (y_assign fe_c) ?_)
  refine tl_nil ?_
  refine tx_then ?_
  refine tr_seq ?_
  refine tr_region ?_
  refine tl_step rfl (oj_val (y_move (fe_t rfl)) ?_)
  refine tl_step rfl (oj_val (y_nilCheck (fe_t rfl)) ?_)
  refine tl_step rfl (oj_val (y_fieldAddr (td := 148) Try.underlying150 rfl rfl Try.sizeOf148 (o' := 0) rfl (fe_t rfl)) ?_)
  refine tl_step rfl (oj_callv Try.call108 fe_f (fel_cons (fe_t rfl) fel_nil) (fun w' hS => of_eq (sign_any _ _ _ _ (bag_int hS 0 rfl mxa hx.1))) ?_)
  refine tl_step rfl (oj_val (y_assign (fe_t rfl)) ?_)
  refine tl_nil ?_
  refine tx_then ?_
  refine tr_ret ?_
  refine tx_ret (res1 Try.results75 (rok_t rfl)) (fun w' hS => ?_)
  have hS' : St w0 w' (bag _ _ (l) :: T) := hS
  exact finG hS' (rfl)

set_option maxRecDepth 100000 in
set_option maxHeartbeats 1000000 in
theorem cmpR {w0 w : World} {T : List Res} {H D : List Nat} {l : List Ent} (hS : St w0 w (bag H D l :: T)) {b_x : Nat} {xa xb : Nm} {vx : Rat} (mxa : (⟨b_x, 0, xa⟩ : Ent) ∈ l) (mxb : (⟨b_x, 2, xb⟩ : Ent) ∈ l) {b_y : Nat} {ya yb : Nm} {vy : Rat} (mya : (⟨b_y, 0, ya⟩ : Ent) ∈ l) (myb : (⟨b_y, 2, yb⟩ : Ent) ∈ l) (hx : RatIs xa xb vx) (hy : RatIs ya yb vy) (g0 : -9223372036854775808 < vx.num * (vy.den : Int)) (g1 : vx.num * (vy.den : Int) < 9223372036854775808) (g2 : -9223372036854775808 < vy.num * (vx.den : Int)) (g3 : vy.num * (vx.den : Int) < 9223372036854775808) (g4 : (vx.den : Int) * (vy.den : Int) < 18446744073709551616) :
    Calls Try.prog 39 #[.pointer (some ⟨b_x, 0, none⟩), .pointer (some ⟨b_y, 0, none⟩)] w fun e w' => ∃ r : BG, True ∧ e = .returned (.int .i64 (vx - vy).num.sign) ∧ St w0 w' (bag r.H r.D l :: T) := by
  refine calls_tr Try.func39 Try.ntmps39 rfl rfl hS ?_
  refine tr_seq ?_
  refine tr_region ?_
  refine tl_step rfl (oj_val (y_assign fe_c) ?_)
  refine tl_nil ?_
  refine tx_then ?_
  refine tr_seq ?_
  refine tr_region ?_
  refine tl_step rfl (oj_allocR 0 Try.zeroValue150 rfl (fun b_t H_t => ?_))
  refine tl_step rfl (oj_val (y_move (fe_t rfl)) ?_)
  refine tl_step rfl (oj_val (y_move (fe_t rfl)) ?_)
  refine tl_step rfl (oj_call2 Try.call80 fe_f (fel_cons (fe_t rfl) (fel_cons (fe_t rfl) (fel_cons (fe_t rfl) fel_nil))) (fun w' hS => lift2 (p := fun m n => RatIs m n (vx - vy)) 0 0 1 hS rfl rfl rfl rfl (fun T l' hm hS => subR hS (hm _ (List.mem_cons_of_mem _ (List.mem_cons_of_mem _ mxa))) (hm _ (List.mem_cons_of_mem _ (List.mem_cons_of_mem _ mxb))) (hm _ (List.mem_cons_of_mem _ (List.mem_cons_of_mem _ mya))) (hm _ (List.mem_cons_of_mem _ (List.mem_cons_of_mem _ myb))) hx hy g0 g1 g2 g3 g4)) (fun r1 hr1 => ?_))
  refine tl_step rfl (oj_call2 Try.call75 fe_f (fel_cons (fe_t rfl) fel_nil) (fun w' hS => lift 0 hS rfl (fun T hS => signR hS (pget_mem 0 rfl) (pget_mem 1 rfl) hr1 )) (fun r2 _ => ?_))
  refine tl_step rfl (oj_val (y_assign (fe_t rfl)) ?_)
  refine tl_nil ?_
  refine tx_then ?_
  refine tr_ret ?_
  refine tx_ret (res1 Try.results39 (rok_t rfl)) (fun w' hS => ?_)
  have hS := St.bagpick (es := [_, _]) 0 hS rfl [] rfl (by decide)
  have hS' : St w0 w' (bag _ _ (l) :: T) := hS
  exact finG hS' (rfl)

end Go.Proofs.Ytpknjfeiiaopgaa.Big
