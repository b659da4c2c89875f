/- Fractions to and fro. -/
import Derived.Test.YtcpdelkamckmfaaFrB
namespace Go.Proofs.Ytcpdelkamckmfaa.Frac
open Go.RowKit Go.Proofs.Ytcpdelkamckmfaa.E Go.Proofs.Ytcpdelkamckmfaa.Big

set_option maxRecDepth 100000 in
set_option maxHeartbeats 1000000 in
theorem bratB {w0 w : World} {T : List Res} {H D : List Nat} {l : List Ent} (hS : St w0 w (bag H D l :: T)) (n d : Int) (ha : bright n d = true) :
    Calls Try.prog 20 #[.agg #[(.int .i64 n), (.int .i64 d)]] w fun e w' => ∃ r : BR, RatIs r.q r.r (mkRat n d.toNat) ∧ e = .returned (.pointer (some ⟨r.b, 0, none⟩)) ∧ St w0 w' (bag r.H r.D (⟨r.b, 0, r.q⟩ :: ⟨r.b, 2, r.r⟩ :: l) :: T) := by
  obtain ⟨a1, a2, a3, a4⟩ := bright_iff.1 ha
  refine calls_tr Try.func20 Try.ntmps20 rfl rfl hS ?_
  refine tr_seq ?_
  refine tr_region ?_
  refine tl_step rfl (oj_box (fe_t rfl) (fun fb => ?_))
  refine tl_step rfl (oj_val (y_assign fe_c) ?_)
  refine tl_nil ?_
  refine tx_then ?_
  refine tr_seq ?_
  refine tr_region ?_
  refine tl_step rfl (oj_val (y_fieldAddr (td := 3) Try.underlying23 rfl rfl Try.sizeOf3 (o' := 0) rfl (fe_t rfl)) ?_)
  refine tl_step rfl (oj_val (y_ldb 0 Try.isAgg3 (fe_t rfl) rfl rfl) ?_)
  refine tl_step rfl (oj_val (y_fieldAddr (td := 3) Try.underlying23 rfl rfl Try.sizeOf3 (o' := 1) rfl (fe_t rfl)) ?_)
  refine tl_step rfl (oj_val (y_ldb 0 Try.isAgg3 (fe_t rfl) rfl rfl) ?_)
  refine tl_step rfl (oj_call2 Try.call83 fe_f (fel_cons (fe_t rfl) (fel_cons (fe_t rfl) fel_nil)) (fun w' hS => lift 1 hS rfl (fun T hS => newR hS n d (by omega) (by omega) (by omega) (by omega))) (fun r1 hr1 => ?_))
  refine tl_step rfl (oj_val (y_assign (fe_t rfl)) ?_)
  refine tl_nil ?_
  refine tx_then ?_
  refine tr_ret ?_
  refine tx_ret (res1 Try.results20 (rok_t rfl)) (fun w' hS => ?_)
  have hS := pickT (l := [_, _]) hS [1] rfl (by decide)
  have hS' : St w0 w' (bag _ _ ((⟨r1.b, 0, _⟩ : Ent) :: (⟨r1.b, 2, _⟩ : Ent) :: l) :: T) := hS
  exact finF hS' hr1

/-- A fraction, if it is small enough. -/
def lor (v : Rat) : Int × Int × Int := if bright v.num (v.den : Int) then (v.num, (v.den : Int), 0) else (0, 0, 4)
theorem mk_num {n d : Int} (hd : 0 < d) : (mkRat n d.toNat).num = n.tdiv (Int.gcd n d : Int) ∧ ((mkRat n d.toNat).den : Int) = d.tdiv (Int.gcd n d : Int) := by
  have h0 : d.toNat ≠ 0 := by omega
  have hg : d.toNat.gcd n.natAbs = Int.gcd n d := by
    rw [Nat.gcd_comm, show d.toNat = d.natAbs by omega]; rfl
  constructor
  · rw [Rat.num_mkRat, if_neg h0, hg, ← Int.tdiv_eq_ediv_of_dvd (Int.gcd_dvd_left _ _)]
  · rw [Rat.den_mkRat, if_neg h0, hg, Int.natCast_ediv, show ((d.toNat : Nat) : Int) = d by omega, ← Int.tdiv_eq_ediv_of_nonneg (by omega)]
theorem lor_mk {n d : Int} (hd : 0 < d) : lor (mkRat n d.toNat) = lo n d := by
  obtain ⟨h1, h2⟩ := mk_num (n := n) hd
  rw [lor, lo, h1, h2]
theorem mk_bd {n d : Int} (hd : 0 < d) : (mkRat n d.toNat).num.natAbs ≤ n.natAbs ∧ ((mkRat n d.toNat).den : Int) ≤ d := by
  obtain ⟨h1, h2⟩ := mk_num (n := n) hd
  rw [h1, h2]
  have := tdiv_bd (a := n) (Int.gcd n d : Int)
  have := tdiv_bd (a := d) (Int.gcd n d : Int)
  have : 0 ≤ d.tdiv (Int.gcd n d : Int) := Int.tdiv_nonneg (by omega) (by omega)
  omega
theorem mk_add {n d n' d' : Int} (hd : 0 < d) (hd' : 0 < d') : mkRat n d.toNat + mkRat n' d'.toNat = mkRat (n * d' + n' * d) (d * d').toNat := by
  rw [Rat.mkRat_add_mkRat _ _ (by omega) (by omega), Int.toNat_mul (by omega) (by omega), show ((d.toNat : Nat) : Int) = d by omega, show ((d'.toNat : Nat) : Int) = d' by omega]
theorem mk_mul {n d n' d' : Int} (hd : 0 < d) (hd' : 0 < d') : mkRat n d.toNat * mkRat n' d'.toNat = mkRat (n * n') (d * d').toNat := by
  rw [Rat.mkRat_mul_mkRat, Int.toNat_mul (by omega) (by omega)]
theorem mk_cmp {n d n' d' : Int} (hd : 0 < d) (hd' : 0 < d') : (mkRat n d.toNat - mkRat n' d'.toNat).num.sign = cmpv n d n' d' := by
  have e : mkRat n d.toNat - mkRat n' d'.toNat = mkRat (n * d' - n' * d) (d * d').toNat := by
    rw [Rat.sub_eq_add_neg, Rat.neg_mkRat, mk_add hd hd', Int.neg_mul, ← Int.sub_eq_add_neg]
  have hp : 0 < d * d' := Int.mul_pos hd hd'
  obtain ⟨h1, _⟩ := mk_num (n := n * d' - n' * d) hp
  obtain ⟨g0, _⟩ := gcd_facts (a := n * d' - n' * d) hp
  have hdv : (Int.gcd (n * d' - n' * d) (d * d') : Int) ∣ n * d' - n' * d := Int.gcd_dvd_left _ _
  rw [e, h1]
  generalize (Int.gcd (n * d' - n' * d) (d * d') : Int) = g at *
  generalize hA : n * d' = A at *
  generalize hB : n' * d = B at *
  obtain ⟨q, hq⟩ := hdv
  rw [hq, Int.mul_tdiv_cancel_left _ (by omega)]
  unfold cmpv
  rw [hA, hB]
  have h2 := Int.sign_mul g q
  rw [Int.sign_eq_one_of_pos g0, Int.one_mul, ← hq] at h2
  rw [← h2]
  rcases Int.lt_trichotomy A B with h | h | h
  · rw [if_pos h, Int.sign_eq_neg_one_of_neg (by omega)]
  · subst h; simp
  · rw [if_neg (by omega), if_pos h, Int.sign_eq_one_of_pos (by omega)]

set_option maxRecDepth 100000 in
set_option maxHeartbeats 1000000 in
theorem bfrac_ok {w0 w : World} {T : List Res} {H D : List Nat} {l : List Ent} (hS : St w0 w (bag H D l :: T)) {b_x : Nat} {xa xb : Nm} {vx : Rat} (mxa : (⟨b_x, 0, xa⟩ : Ent) ∈ l) (mxb : (⟨b_x, 2, xb⟩ : Ent) ∈ l) (hx : RatIs xa xb vx) (g0 : -9223372036854775808 < vx.num) (g1 : vx.num < 9223372036854775808) (g2 : (vx.den : Int) < 9223372036854775808) (hr : bright vx.num (vx.den : Int) = true) :
    Calls Try.prog 21 #[.pointer (some ⟨b_x, 0, none⟩)] w fun e w' => ∃ r : BG, True ∧ e = .returned (.tuple #[.agg #[(.int .i64 ((lor vx).1)), (.int .i64 ((lor vx).2.1))], (.int .i64 ((lor vx).2.2))]) ∧ St w0 w' (bag r.H r.D l :: T) := by
  have dx := vx.den_pos
  have sx : Sm vx.num := sm_of (by omega) (by omega)
  have tx : Sm (vx.den : Int) := sm_of (by omega) (by omega)
  refine calls_tr Try.func21 Try.ntmps21 rfl rfl hS ?_
  refine tr_seq ?_
  refine tr_region ?_
  refine tl_step rfl (oj_alloc Try.zeroValue23 (fun ob => ?_))
  refine tl_step rfl (oj_val (y_assign fe_c) ?_)
  refine tl_nil ?_
  refine tx_then ?_
  refine tr_seq ?_
  refine tr_seq ?_
  refine tr_region ?_
  refine tl_step rfl (oj_val (y_move (fe_t rfl)) ?_)
  refine tl_step rfl (oj_call2 Try.call33 fe_f (fel_cons (fe_t rfl) fel_nil) (fun w' hS => lift 1 hS rfl (fun T hS => numR hS mxa mxb hx sx)) (fun r1 hr1 => ?_))
  refine tl_step rfl (oj_call2 Try.call105 fe_f (fel_cons (fe_t rfl) fel_nil) (fun w' hS => lift 1 hS rfl (fun T hS => isint64B hS (pget_mem 0 rfl) hr1 (by omega) (by omega))) (fun r2 _ => ?_))
  refine tl_step rfl (oj_val (y_not (fe_t rfl)) ?_)
  refine tl_step rfl (oj_val (y_move (fe_t rfl)) ?_)
  refine tl_want rfl rfl rfl (oj_val (y_move (fe_t rfl)) ?_)
  refine tl_want rfl rfl rfl (oj_call2 Try.call34 fe_f (fel_cons (fe_t rfl) fel_nil) (fun w' hS => lift 1 hS rfl (fun T hS => denomR hS (List.mem_cons_of_mem _ mxa) (List.mem_cons_of_mem _ mxb) hx tx)) (fun r3 hr3 => ?_))
  refine tl_want rfl rfl rfl (oj_call2 Try.call105 fe_f (fel_cons (fe_t rfl) fel_nil) (fun w' hS => lift 1 hS rfl (fun T hS => isint64B hS (pget_mem 0 rfl) hr3 (by omega) (by omega))) (fun r4 _ => ?_))
  refine tl_want rfl rfl rfl (oj_val (y_not (fe_t rfl)) ?_)
  refine tl_step rfl (oj_val (y_pickf (fe_t rfl) (fe_t rfl)) ?_)
  refine tl_nil ?_
  refine tx_then ?_
  refine tr_condf (fe_t rfl) ?_
  refine tr_skip ?_
  refine tx_then ?_
  refine tr_seq ?_
  refine tr_region ?_
  refine tl_step rfl (oj_val (y_move (fe_t rfl)) ?_)
  refine tl_step rfl (oj_call2 Try.call33 fe_f (fel_cons (fe_t rfl) fel_nil) (fun w' hS => lift 1 hS rfl (fun T hS => numR hS (List.mem_cons_of_mem _ (List.mem_cons_of_mem _ mxa)) (List.mem_cons_of_mem _ (List.mem_cons_of_mem _ mxb)) hx sx)) (fun r5 hr5 => ?_))
  refine tl_step rfl (oj_callv Try.call36 fe_f (fel_cons (fe_t rfl) fel_nil) (fun w' hS => of_eq (int64_any _ _ _ _ (bag_int hS 1 rfl (pget_mem 0 rfl) hr5) (by omega) (by omega))) ?_)
  refine tl_step rfl (oj_val (y_move (fe_t rfl)) ?_)
  refine tl_step rfl (oj_call2 Try.call34 fe_f (fel_cons (fe_t rfl) fel_nil) (fun w' hS => lift 1 hS rfl (fun T hS => denomR hS (List.mem_cons_of_mem _ (List.mem_cons_of_mem _ (List.mem_cons_of_mem _ mxa))) (List.mem_cons_of_mem _ (List.mem_cons_of_mem _ (List.mem_cons_of_mem _ mxb))) hx tx)) (fun r7 hr7 => ?_))
  refine tl_step rfl (oj_callv Try.call36 fe_f (fel_cons (fe_t rfl) fel_nil) (fun w' hS => of_eq (int64_any _ _ _ _ (bag_int hS 1 rfl (pget_mem 0 rfl) hr7) (by omega) (by omega))) ?_)
  refine tl_step rfl (oj_val ((fun {u0 u1} hx hb => y_build (is := [0, 1]) (vs := [u0, u1]) (cs := [u0, u1]) rfl hx hb) (fel_cons (fe_t rfl) (fel_cons (fe_t rfl) fel_nil)) (by kernel_rfl)) ?_)
  refine tl_step rfl (oj_alloc Try.zeroValue23 (fun ab => ?_))
  refine tl_step rfl (oj_storeW 0 Try.sizeOf23 (fe_t rfl) (fe_t rfl) rfl rfl rfl rfl rfl (?_))
  refine tl_nil ?_
  refine tx_then ?_
  refine tr_seq ?_
  refine tr_seq ?_
  refine tr_region ?_
  refine tl_step rfl (oj_val (y_ldbA 0 Try.isAgg23 Try.sizeOf23 (fe_t rfl) rfl rfl rfl) ?_)
  refine tl_step rfl (oj_callv Try.call19 fe_f (fel_cons (fe_t rfl) fel_nil) (fun w' hS => brightE hr w') ?_)
  refine tl_step rfl (oj_val (y_not (fe_t rfl)) ?_)
  refine tl_nil ?_
  refine tx_then ?_
  refine tr_condf (fe_t rfl) ?_
  refine tr_skip ?_
  refine tx_then ?_
  refine tr_seq ?_
  refine tr_region ?_
  refine tl_step rfl (oj_val (y_ldbA 0 Try.isAgg23 Try.sizeOf23 (fe_t rfl) rfl rfl rfl) ?_)
  refine tl_step rfl (oj_storeW 1 Try.sizeOf23 (fe_t rfl) (fe_t rfl) rfl rfl rfl rfl rfl (?_))
  refine tl_step rfl (oj_val (y_assign fe_c) ?_)
  refine tl_nil ?_
  refine tx_then ?_
  refine tr_ret ?_
  refine tx_ret (res2 Try.results21 (rok_b 1 Try.isAgg23 Try.sizeOf23 rfl rfl rfl) (rok_t rfl)) (fun w' hS => ?_)
  have hS := St.bagpick (es := [_, _, _, _]) 2 hS rfl [] rfl (by decide)
  have hS := pickT (l := [_, _, _]) hS [2] rfl (by decide)
  have hS' : St w0 w' (bag _ _ (l) :: T) := hS
  exact finG hS' (by rw [lor, hr]; rfl)

set_option maxRecDepth 100000 in
set_option maxHeartbeats 1000000 in
theorem bfrac_bad {w0 w : World} {T : List Res} {H D : List Nat} {l : List Ent} (hS : St w0 w (bag H D l :: T)) {b_x : Nat} {xa xb : Nm} {vx : Rat} (mxa : (⟨b_x, 0, xa⟩ : Ent) ∈ l) (mxb : (⟨b_x, 2, xb⟩ : Ent) ∈ l) (hx : RatIs xa xb vx) (g0 : -9223372036854775808 < vx.num) (g1 : vx.num < 9223372036854775808) (g2 : (vx.den : Int) < 9223372036854775808) (hr : bright vx.num (vx.den : Int) = false) :
    Calls Try.prog 21 #[.pointer (some ⟨b_x, 0, none⟩)] w fun e w' => ∃ r : BG, True ∧ e = .returned (.tuple #[.agg #[(.int .i64 ((lor vx).1)), (.int .i64 ((lor vx).2.1))], (.int .i64 ((lor vx).2.2))]) ∧ St w0 w' (bag r.H r.D l :: T) := by
  have dx := vx.den_pos
  have sx : Sm vx.num := sm_of (by omega) (by omega)
  have tx : Sm (vx.den : Int) := sm_of (by omega) (by omega)
  refine calls_tr Try.func21 Try.ntmps21 rfl rfl hS ?_
  refine tr_seq ?_
  refine tr_region ?_
  refine tl_step rfl (oj_alloc Try.zeroValue23 (fun ob => ?_))
  refine tl_step rfl (oj_val (y_assign fe_c) ?_)
  refine tl_nil ?_
  refine tx_then ?_
  refine tr_seq ?_
  refine tr_seq ?_
  refine tr_region ?_
  refine tl_step rfl (oj_val (y_move (fe_t rfl)) ?_)
  refine tl_step rfl (oj_call2 Try.call33 fe_f (fel_cons (fe_t rfl) fel_nil) (fun w' hS => lift 1 hS rfl (fun T hS => numR hS mxa mxb hx sx)) (fun r1 hr1 => ?_))
  refine tl_step rfl (oj_call2 Try.call105 fe_f (fel_cons (fe_t rfl) fel_nil) (fun w' hS => lift 1 hS rfl (fun T hS => isint64B hS (pget_mem 0 rfl) hr1 (by omega) (by omega))) (fun r2 _ => ?_))
  refine tl_step rfl (oj_val (y_not (fe_t rfl)) ?_)
  refine tl_step rfl (oj_val (y_move (fe_t rfl)) ?_)
  refine tl_want rfl rfl rfl (oj_val (y_move (fe_t rfl)) ?_)
  refine tl_want rfl rfl rfl (oj_call2 Try.call34 fe_f (fel_cons (fe_t rfl) fel_nil) (fun w' hS => lift 1 hS rfl (fun T hS => denomR hS (List.mem_cons_of_mem _ mxa) (List.mem_cons_of_mem _ mxb) hx tx)) (fun r3 hr3 => ?_))
  refine tl_want rfl rfl rfl (oj_call2 Try.call105 fe_f (fel_cons (fe_t rfl) fel_nil) (fun w' hS => lift 1 hS rfl (fun T hS => isint64B hS (pget_mem 0 rfl) hr3 (by omega) (by omega))) (fun r4 _ => ?_))
  refine tl_want rfl rfl rfl (oj_val (y_not (fe_t rfl)) ?_)
  refine tl_step rfl (oj_val (y_pickf (fe_t rfl) (fe_t rfl)) ?_)
  refine tl_nil ?_
  refine tx_then ?_
  refine tr_condf (fe_t rfl) ?_
  refine tr_skip ?_
  refine tx_then ?_
  refine tr_seq ?_
  refine tr_region ?_
  refine tl_step rfl (oj_val (y_move (fe_t rfl)) ?_)
  refine tl_step rfl (oj_call2 Try.call33 fe_f (fel_cons (fe_t rfl) fel_nil) (fun w' hS => lift 1 hS rfl (fun T hS => numR hS (List.mem_cons_of_mem _ (List.mem_cons_of_mem _ mxa)) (List.mem_cons_of_mem _ (List.mem_cons_of_mem _ mxb)) hx sx)) (fun r5 hr5 => ?_))
  refine tl_step rfl (oj_callv Try.call36 fe_f (fel_cons (fe_t rfl) fel_nil) (fun w' hS => of_eq (int64_any _ _ _ _ (bag_int hS 1 rfl (pget_mem 0 rfl) hr5) (by omega) (by omega))) ?_)
  refine tl_step rfl (oj_val (y_move (fe_t rfl)) ?_)
  refine tl_step rfl (oj_call2 Try.call34 fe_f (fel_cons (fe_t rfl) fel_nil) (fun w' hS => lift 1 hS rfl (fun T hS => denomR hS (List.mem_cons_of_mem _ (List.mem_cons_of_mem _ (List.mem_cons_of_mem _ mxa))) (List.mem_cons_of_mem _ (List.mem_cons_of_mem _ (List.mem_cons_of_mem _ mxb))) hx tx)) (fun r7 hr7 => ?_))
  refine tl_step rfl (oj_callv Try.call36 fe_f (fel_cons (fe_t rfl) fel_nil) (fun w' hS => of_eq (int64_any _ _ _ _ (bag_int hS 1 rfl (pget_mem 0 rfl) hr7) (by omega) (by omega))) ?_)
  refine tl_step rfl (oj_val ((fun {u0 u1} hx hb => y_build (is := [0, 1]) (vs := [u0, u1]) (cs := [u0, u1]) rfl hx hb) (fel_cons (fe_t rfl) (fel_cons (fe_t rfl) fel_nil)) (by kernel_rfl)) ?_)
  refine tl_step rfl (oj_alloc Try.zeroValue23 (fun ab => ?_))
  refine tl_step rfl (oj_storeW 0 Try.sizeOf23 (fe_t rfl) (fe_t rfl) rfl rfl rfl rfl rfl (?_))
  refine tl_nil ?_
  refine tx_then ?_
  refine tr_seq ?_
  refine tr_seq ?_
  refine tr_region ?_
  refine tl_step rfl (oj_val (y_ldbA 0 Try.isAgg23 Try.sizeOf23 (fe_t rfl) rfl rfl rfl) ?_)
  refine tl_step rfl (oj_callv Try.call19 fe_f (fel_cons (fe_t rfl) fel_nil) (fun w' hS => brightE hr w') ?_)
  refine tl_step rfl (oj_val (y_not (fe_t rfl)) ?_)
  refine tl_nil ?_
  refine tx_then ?_
  refine tr_condt (fe_t rfl) ?_
  refine tr_seq ?_
  refine tr_region ?_
  refine tl_step rfl (oj_val (y_build (is := []) (vs := []) (cs := [.int .i64 0, .int .i64 0]) rfl fel_nil (by kernel_rfl)) ?_)
  refine tl_step rfl (oj_storeW 1 Try.sizeOf23 (fe_t rfl) (fe_t rfl) rfl rfl rfl rfl rfl (?_))
  refine tl_step rfl (oj_val (y_assign fe_c) ?_)
  refine tl_nil ?_
  refine tx_then ?_
  refine tr_ret ?_
  refine tx_then_ret ?_
  refine tx_ret (res2 Try.results21 (rok_b 1 Try.isAgg23 Try.sizeOf23 rfl rfl rfl) (rok_t rfl)) (fun w' hS => ?_)
  have hS := St.bagpick (es := [_, _, _, _]) 2 hS rfl [] rfl (by decide)
  have hS := pickT (l := [_, _, _]) hS [2] rfl (by decide)
  have hS' : St w0 w' (bag _ _ (l) :: T) := hS
  exact finG hS' (by rw [lor, hr]; rfl)

theorem bfracB {w0 w : World} {T : List Res} {H D : List Nat} {l : List Ent} (hS : St w0 w (bag H D l :: T)) {b_x : Nat} {xa xb : Nm} {vx : Rat} (mxa : (⟨b_x, 0, xa⟩ : Ent) ∈ l) (mxb : (⟨b_x, 2, xb⟩ : Ent) ∈ l) (hx : RatIs xa xb vx) (g0 : -9223372036854775808 < vx.num) (g1 : vx.num < 9223372036854775808) (g2 : (vx.den : Int) < 9223372036854775808) :
    Calls Try.prog 21 #[.pointer (some ⟨b_x, 0, none⟩)] w fun e w' => ∃ r : BG, True ∧ e = .returned (.tuple #[.agg #[(.int .i64 ((lor vx).1)), (.int .i64 ((lor vx).2.1))], (.int .i64 ((lor vx).2.2))]) ∧ St w0 w' (bag r.H r.D l :: T) := by
  cases hr : bright vx.num (vx.den : Int)
  · exact bfrac_bad hS mxa mxb hx g0 g1 g2 hr
  · exact bfrac_ok hS mxa mxb hx g0 g1 g2 hr
theorem bfracM {w0 w : World} {T : List Res} {H D : List Nat} {l : List Ent} (hS : St w0 w (bag H D l :: T)) {b_x : Nat} {xa xb : Nm} (mxa : (⟨b_x, 0, xa⟩ : Ent) ∈ l) (mxb : (⟨b_x, 2, xb⟩ : Ent) ∈ l) {n d : Int} (hd : 0 < d) (hx : RatIs xa xb (mkRat n d.toNat)) (h0 : -4611686018427387904 ≤ n) (h1 : n ≤ 4611686018427387904) (h3 : d ≤ 4611686018427387904) :
    Calls Try.prog 21 #[.pointer (some ⟨b_x, 0, none⟩)] w fun e w' => ∃ r : BG, True ∧ e = .returned (.tuple #[.agg #[(.int .i64 ((lo (n) (d)).1)), (.int .i64 ((lo (n) (d)).2.1))], (.int .i64 ((lo (n) (d)).2.2))]) ∧ St w0 w' (bag r.H r.D l :: T) := by
  have hb := mk_bd (n := n) hd
  have := bfracB hS mxa mxb hx (by omega) (by omega) (by omega)
  rw [lor_mk hd] at this
  exact this

end Go.Proofs.Ytcpdelkamckmfaa.Frac
