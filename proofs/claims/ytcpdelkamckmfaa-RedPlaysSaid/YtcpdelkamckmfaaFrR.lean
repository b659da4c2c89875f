/- Root, Floor, Ceil, Low. -/
import Derived.Test.YtcpdelkamckmfaaBX
import Derived.Test.YtcpdelkamckmfaaBitsL
import Derived.Test.YtcpdelkamckmfaaFrC
namespace Go.Proofs.Ytcpdelkamckmfaa.Frac
open Go.RowKit Go.Proofs.Ytcpdelkamckmfaa.E Go.Proofs.Ytcpdelkamckmfaa.Big

theorem len64n {n : Nat} (hn : n < 18446744073709551616) (w : World) : Calls Try.prog 110 #[.int .u64 (n : Int)] w fun e w' => e = .returned (.int .i64 (Lib.bitLen n : Int)) ∧ St w w' [] := by
  have := len64 (n : Int) w (by omega) (by omega)
  rw [Int.toNat_natCast] at this
  exact of_eq (this.mono fun e w' h => ⟨h.1, h.2.symm⟩)
theorem or_bit {r k : Nat} (h : 2 ^ (k + 1) ∣ r) (hr : r < 4294967296) (hk : k ≤ 33) : bits .or .u64 (r : Int) ((2 ^ k : Nat) : Int) = ((r + 2 ^ k : Nat) : Int) := by
  have hp : 2 ^ k ≤ 8589934592 := Nat.pow_le_pow_right (n := 2) (by decide) (show k ≤ 33 by omega)
  obtain ⟨c, hc⟩ := h
  have ho : r ||| 2 ^ k = r + 2 ^ k := by
    rw [hc, Nat.mul_comm, ← Nat.shiftLeft_eq, ← Nat.shiftLeft_add_eq_or_of_lt (Nat.pow_lt_pow_right (by decide) (by omega))]
  clear hc
  generalize 2 ^ k = t at *
  rw [u64_or _ _ (by omega) (by omega) (by omega) (by omega), Int.toNat_natCast, Int.toNat_natCast, ho]
  try rfl
theorem u64_orw (a b r : Int) (h : bits .or .u64 a b = r) {P : Program} (w : World) : (Op.intBits .or .u64 a b).run P w = .ok (.int .u64 r) w := by
  simp only [Op.intBits]
  first | (rw [← h]; rfl) | simp [bits] at h ⊢
theorem shl_one {k : Nat} (hk : k ≤ 33) : IntKind.u64.wrap (1 * 2 ^ (min (k : Int).toNat IntKind.u64.bits)) = ((2 ^ k : Nat) : Int) := by
  rw [Int.toNat_natCast, show min k IntKind.u64.bits = k from Nat.min_eq_left (by show k ≤ 64; omega), Int.one_mul]
  have hp : 2 ^ k ≤ 8589934592 := Nat.pow_le_pow_right (n := 2) (by decide) (show k ≤ 33 by omega)
  have c : ((2 ^ k : Nat) : Int) = 2 ^ k := by rw [Int.natCast_pow]; rfl
  rw [← c]
  clear c
  generalize 2 ^ k = t at *
  exact IntWalk.u64_in _ (by omega)
theorem sq_lt {t : Nat} (h : t < 4294967296) : t * t < 18446744073709551616 := by
  have := Nat.mul_le_mul (show t ≤ 4294967295 by omega) (show t ≤ 4294967295 by omega)
  omega
theorem sq_ge {t : Nat} (h : 4294967296 ≤ t) : 18446744073709551616 ≤ t * t := by
  have := Nat.mul_le_mul h h
  omega

set_option maxRecDepth 100000 in
set_option maxHeartbeats 2000000 in
theorem rootE {n : Nat} (hn : n < 18446744073709551616) (w : World) :
    Calls Try.prog 28 #[.int .u64 (n : Int)] w fun e w' => e = .returned (.int .u64 ((isq n : Nat) : Int)) ∧ St w w' [] := by
  obtain ⟨hl1, hl2⟩ := bitLen_lt hn
  refine calls_tr Try.func28 Try.ntmps28 rfl rfl (St.refl _) ?_
  refine tr_seq ?_
  refine tr_region ?_
  refine tl_step rfl (oj_val (y_assign fe_c) ?_)
  refine tl_nil ?_
  refine tx_then ?_
  refine tr_seq ?_
  refine tr_region ?_
  refine tl_step rfl (oj_val (y_assign fe_c) ?_)
  refine tl_nil ?_
  refine tx_then ?_
  refine tr_seq ?_
  refine tr_seq ?_
  refine tr_region ?_
  refine tl_step rfl (oj_val (y_move (fe_t rfl)) ?_)
  refine tl_step rfl (oj_callv Try.call110 fe_f (fel_cons (fe_t rfl) fel_nil) (fun w' hS => len64n hn w') ?_)
  refine tl_step rfl (oj_val (y_as (b := ((Lib.bitLen n + 1 : Nat) : Int)) (y_add (fe_t rfl) fe_c (by omega)) (by omega)) ?_)
  refine tl_step rfl (oj_val (y_as (b := (((Lib.bitLen n + 1) / 2 + 1 : Nat) : Int) - 1) (y_quo (fe_t rfl) fe_c (by omega)) (by omega)) ?_)
  refine tl_step rfl (oj_val (y_assign (fe_t rfl)) ?_)
  refine tl_nil ?_
  refine tx_then ?_
  refine tr_block ?_
  refine tr_loop2 [3, 4, 5, 10, 11, 12, 13, 14, 15, 16, 17, 18, 19, 20, 21, 22, 23, 24, 25, 26, 27] (fun (k : Nat) (v : Nat) => [(4, .int .i64 ((k : Int) - 1)), (3, .int .u64 (v : Int))]) 0 (fun (k : Nat) (v : Nat) => []) (fun (k : Nat) (v : Nat) => k ≤ 34 ∧ RtInv n v k ∧ v < 4294967296) (fun (k : Nat) (v : Nat) => k) ((Lib.bitLen n + 1) / 2 + 1) (0) (cov_cons (by first | rfl | exact v_int (by omega) | exact v_bool (by simp [*])) (cov_cons (by first | rfl | exact v_int (by omega) | exact v_bool (by simp [*])) (cov_nil))) (fun w h => h) ?_ ?_
  · try dsimp only
    exact ⟨by omega, rt_start (Nat.lt_of_lt_of_le hl1 (Nat.pow_le_pow_right (by decide) (by omega))), by omega⟩
  intro k v hp
  obtain ⟨hk, hinv, hv⟩ := hp
  refine tr_seq ?_
  refine tr_seq ?_
  refine tr_region ?_
  refine tl_step rfl (oj_val (y_move (fe_t rfl)) ?_)
  refine tl_step rfl (oj_val (y_geq (fe_t rfl) fe_c) ?_)
  refine tl_nil ?_
  refine tx_then ?_
  refine tr_condp (fe_t rfl) (fun hq1 => ?_) (fun hq2 => ?_)
  · refine tr_skip ?_
    refine tx_then ?_
    refine tr_seq ?_
    refine tr_block ?_
    refine tr_seq ?_
    obtain ⟨hinv1, hbit, hvt, hp2⟩ := sq_facts hinv (by omega) hk hv
    have hsl := fun h => sq_lt (t := v + 2 ^ (k - 1)) h
    have hsg := fun h => sq_ge (t := v + 2 ^ (k - 1)) h
    refine tr_region ?_
    refine tl_step rfl (oj_val (y_move (fe_t rfl)) ?_)
    refine tl_step rfl (oj_val (y_as (b := ((k - 1 : Nat) : Int)) (y_move (fe_t rfl)) (by omega)) ?_)
    refine tl_step rfl (oj_val (y_as (y_shl fe_c (fe_t rfl) (by omega)) (shl_one (by omega))) ?_)
    refine tl_step rfl (oj_val (y_bits (.inr (.inl rfl)) (fe_t rfl) (fe_t rfl) (fun w => u64_orw _ _ _ (or_bit hinv1.1 hv (by omega)) w)) ?_)
    refine tl_step rfl (oj_val (y_assign (fe_t rfl)) ?_)
    refine tl_nil ?_
    refine tx_then ?_
    refine tr_seq ?_
    refine tr_region ?_
    refine tl_step rfl (oj_val (y_move (fe_t rfl)) ?_)
    refine tl_step rfl (oj_val (y_lss (fe_t rfl) fe_c) ?_)
    refine tl_step rfl (oj_val (y_move (fe_t rfl)) ?_)
    refine tl_splitp (d := 20) rfl (fun hq3 => ?_) (fun hq4 => ?_)
    · have hlt : v + 2 ^ (k - 1) < 4294967296 := by omega
      replace hsl := hsl hlt
      clear hsg
      refine tl_want rfl rfl rfl (oj_val (y_move (fe_t rfl)) ?_)
      refine tl_want rfl rfl rfl (oj_val (y_move (fe_t rfl)) ?_)
      refine tl_want rfl rfl rfl (oj_val (y_as (b := (((v + 2 ^ (k - 1)) * (v + 2 ^ (k - 1)) : Nat) : Int)) (y_mulk (fe_t rfl) (fe_t rfl)) (by rw [← Int.natCast_mul]; exact IntWalk.u64_in _ (by omega))) ?_)
      refine tl_want rfl rfl rfl (oj_val (y_move (fe_t rfl)) ?_)
      refine tl_want rfl rfl rfl (oj_val (y_leq (fe_t rfl) (fe_t rfl)) ?_)
      refine tl_step rfl (oj_val (y_pickt (fe_t rfl) (fe_t rfl)) ?_)
      refine tl_nil ?_
      refine tx_then ?_
      refine tr_condp (fe_t rfl) (fun hq5 => ?_) (fun hq6 => ?_)
      · refine tr_region ?_
        refine tl_step rfl (oj_val (y_move (fe_t rfl)) ?_)
        refine tl_step rfl (oj_val (y_assign (fe_t rfl)) ?_)
        refine tl_nil ?_
        refine tx_in ?_
        refine tx_then ?_
        refine tr_region ?_
        refine tl_step rfl (oj_val (y_move (fe_t rfl)) ?_)
        refine tl_step rfl (oj_val (y_sub (fe_t rfl) fe_c (by omega)) ?_)
        refine tl_step rfl (oj_val (y_assign (fe_t rfl)) ?_)
        refine tl_nil ?_
        apply tx_back2 (k - 1) (v + 2 ^ (k - 1))
        · exact (cov_cons (by first | rfl | exact v_int (by omega) | exact v_bool (by simp [*])) (cov_cons (by first | rfl | exact v_int (by omega) | exact v_bool (by simp [*])) (cov_nil)))
        · repeat (first | exact over_nil | refine over_put rfl ?_ | refine over_drop rfl ?_)
        · exact fun w h => h.pick [] _ rfl (by decide)
        · first
            | exact ⟨⟨by omega, rt_yes hinv1 (by omega), by omega⟩, by omega⟩
            | exact ⟨⟨by omega, rt_no hinv1 (by omega), by omega⟩, by omega⟩
      · refine tr_skip ?_
        refine tx_in ?_
        refine tx_then ?_
        refine tr_region ?_
        refine tl_step rfl (oj_val (y_move (fe_t rfl)) ?_)
        refine tl_step rfl (oj_val (y_sub (fe_t rfl) fe_c (by omega)) ?_)
        refine tl_step rfl (oj_val (y_assign (fe_t rfl)) ?_)
        refine tl_nil ?_
        apply tx_back2 (k - 1) (v)
        · exact (cov_cons (by first | rfl | exact v_int (by omega) | exact v_bool (by simp [*])) (cov_cons (by first | rfl | exact v_int (by omega) | exact v_bool (by simp [*])) (cov_nil)))
        · repeat (first | exact over_nil | refine over_put rfl ?_ | refine over_drop rfl ?_)
        · exact fun w h => h.pick [] _ rfl (by decide)
        · first
            | exact ⟨⟨by omega, rt_yes hinv1 (by omega), by omega⟩, by omega⟩
            | exact ⟨⟨by omega, rt_no hinv1 (by omega), by omega⟩, by omega⟩
    · have hge : 4294967296 ≤ v + 2 ^ (k - 1) := by omega
      replace hsg := hsg hge
      clear hsl
      refine tl_skip rfl rfl rfl rfl ?_
      refine tl_skip rfl rfl rfl rfl ?_
      refine tl_skip rfl rfl rfl rfl ?_
      refine tl_skip rfl rfl rfl rfl ?_
      refine tl_skip rfl rfl rfl rfl ?_
      refine tl_step rfl (oj_val (y_pickf (fe_t rfl) fe_c) ?_)
      refine tl_nil ?_
      refine tx_then ?_
      refine tr_condf (fe_t rfl) ?_
      refine tr_skip ?_
      refine tx_in ?_
      refine tx_then ?_
      refine tr_region ?_
      refine tl_step rfl (oj_val (y_move (fe_t rfl)) ?_)
      refine tl_step rfl (oj_val (y_sub (fe_t rfl) fe_c (by omega)) ?_)
      refine tl_step rfl (oj_val (y_assign (fe_t rfl)) ?_)
      refine tl_nil ?_
      apply tx_back2 (k - 1) (v)
      · exact (cov_cons (by first | rfl | exact v_int (by omega) | exact v_bool (by simp [*])) (cov_cons (by first | rfl | exact v_int (by omega) | exact v_bool (by simp [*])) (cov_nil)))
      · repeat (first | exact over_nil | refine over_put rfl ?_ | refine over_drop rfl ?_)
      · exact fun w h => h.pick [] _ rfl (by decide)
      · first
          | exact ⟨⟨by omega, rt_yes hinv1 (by omega), by omega⟩, by omega⟩
          | exact ⟨⟨by omega, rt_no hinv1 (by omega), by omega⟩, by omega⟩
  · refine tr_exit ?_
    refine tx_then_exit ?_
    refine tx_then_exit ?_
    refine tx_in_exit ?_
    refine tx_then ?_
    refine tr_seq ?_
    refine tr_region ?_
    refine tl_step rfl (oj_val (y_move (fe_t rfl)) ?_)
    refine tl_step rfl (oj_val (y_assign (fe_t rfl)) ?_)
    refine tl_nil ?_
    refine tx_then ?_
    refine tr_ret ?_
    refine tx_ret (res1 Try.results28 (rok_t rfl)) (fun w' hS => ?_)
    have he : isq n = v := rt_end (by rwa [show k = 0 by omega] at hinv)
    exact ⟨by rw [he], hS.pick [] _ rfl (by decide)⟩

theorem ediv_bd {n d : Int} (h : 0 < d) : (n / d).natAbs ≤ n.natAbs + 1 := by
  have h1 := Int.mul_ediv_add_emod n d
  have h2 := Int.emod_nonneg n (show d ≠ 0 by omega)
  have h3 := Int.emod_lt_of_pos n h
  rcases Int.lt_trichotomy (n / d) 0 with h4 | h4 | h4
  · by_cases h5 : n / d ≥ -1
    · omega
    · have : d * (n / d) ≤ 1 * (n / d + 1) - d := by
        have h6 : d * (n / d + 1) ≤ 1 * (n / d + 1) := by
          have := Int.mul_le_mul_of_nonneg_right (show (1 : Int) ≤ d by omega) (show 0 ≤ -(n / d + 1) by omega)
          rw [Int.mul_neg, Int.mul_neg] at this; omega
        rw [Int.mul_add] at h6; omega
      omega
  · omega
  · have h5 : 1 * (n / d) ≤ d * (n / d) := Int.mul_le_mul_of_nonneg_right (by omega) (by omega)
    omega
theorem bright_neg (n d : Int) : bright (-n) d = bright n d := by
  unfold bright; exact decide_eq_decide.2 (by omega)
theorem bright_wrap {n d : Int} (h0 : -9223372036854775808 ≤ n) (h1 : n ≤ 9223372036854775807) (h : bright n d = false) : bright (IntKind.i64.wrap (-n)) d = false := by
  by_cases h2 : n = -9223372036854775808
  · subst h2
    rw [show IntKind.i64.wrap (- -9223372036854775808) = -9223372036854775808 from by decide]
    exact h
  · rw [IntWalk.i64_in (-n) (by omega), bright_neg]
    exact h
theorem lo_ok {n d : Int} (ha : bright n d = true) : lo n d = (n.tdiv (Int.gcd n d : Int), d.tdiv (Int.gcd n d : Int), 0) := by
  obtain ⟨a1, a2, a3, a4⟩ := bright_iff.1 ha
  obtain ⟨e0, e1⟩ := gcd_facts (a := n) a1
  have h1 := tdiv_bd (a := n) (Int.gcd n d : Int)
  have h2 := tdiv_bd (a := d) (Int.gcd n d : Int)
  have h3 : 0 < d.tdiv (Int.gcd n d : Int) := by
    obtain ⟨q, hq⟩ : (Int.gcd n d : Int) ∣ d := Int.gcd_dvd_right _ _
    generalize (Int.gcd n d : Int) = g at *
    rw [hq, Int.mul_tdiv_cancel_left _ (by omega)]
    rcases Int.lt_or_le 0 q with h | h
    · exact h
    · have := Int.mul_nonpos_of_nonneg_of_nonpos (show 0 ≤ g by omega) h
      omega
  rw [lo, if_pos (bright_iff.2 ⟨h3, by omega, by omega, by omega⟩)]
theorem mk_floor {n d : Int} (hd : 0 < d) : (mkRat n d.toNat).num / ((mkRat n d.toNat).den : Int) = n / d ∧ -(mkRat n d.toNat).num / ((mkRat n d.toNat).den : Int) = -n / d := by
  obtain ⟨h1, h2⟩ := mk_num (n := n) hd
  obtain ⟨g0, _⟩ := gcd_facts (a := n) hd
  obtain ⟨p, hp⟩ : (Int.gcd n d : Int) ∣ n := Int.gcd_dvd_left _ _
  obtain ⟨q, hq⟩ : (Int.gcd n d : Int) ∣ d := Int.gcd_dvd_right _ _
  rw [h1, h2]
  generalize (Int.gcd n d : Int) = g at *
  have e1 : n.tdiv g = p := by rw [hp, Int.mul_tdiv_cancel_left _ (by omega)]
  have e2 : d.tdiv g = q := by rw [hq, Int.mul_tdiv_cancel_left _ (by omega)]
  rw [e1, e2, hp, hq, ← Int.mul_neg, Int.mul_ediv_mul_of_pos _ _ g0, Int.mul_ediv_mul_of_pos _ _ g0]
  exact ⟨rfl, rfl⟩

set_option maxRecDepth 100000 in
set_option maxHeartbeats 1000000 in
theorem floor_ok {n d : Int} (ha : bright n d = true) (w : World) :
    Calls Try.prog 26 #[.agg #[(.int .i64 n), (.int .i64 d)]] w fun e w' => e = .returned (.tuple #[(.int .i64 (n / d)), (.int .i64 0)]) ∧ St w w' [] := by
  obtain ⟨a1, a2, a3, a4⟩ := bright_iff.1 ha
  have hq := tdiv_bd (a := n) d
  refine calls_tr Try.func26 Try.ntmps26 rfl rfl (St.refl _) ?_
  refine tr_seq ?_
  refine tr_region ?_
  refine tl_step rfl (oj_box (fe_t rfl) (fun b1 => ?_))
  refine tl_step rfl (oj_val (y_assign fe_c) ?_)
  refine tl_step rfl (oj_val (y_assign fe_c) ?_)
  refine tl_nil ?_
  refine tx_then ?_
  refine tr_seq ?_
  refine tr_seq ?_
  refine tr_region ?_
  refine tl_step rfl (oj_val (y_ldbA 0 Try.isAgg23 Try.sizeOf23 (fe_t rfl) rfl rfl rfl) ?_)
  refine tl_step rfl (oj_callv Try.call18 fe_f (fel_cons (fe_t rfl) fel_nil) (fun w' hS => rightE ha w') ?_)
  refine tl_step rfl (oj_val (y_not (fe_t rfl)) ?_)
  refine tl_nil ?_
  refine tx_then ?_
  refine tr_condf (fe_t rfl) ?_
  refine tr_skip ?_
  refine tx_then ?_
  refine tr_seq ?_
  refine tr_region ?_
  refine tl_step rfl (oj_val (y_fieldAddr (td := 3) Try.underlying23 rfl rfl Try.sizeOf3 (o' := 0) rfl (fe_t rfl)) ?_)
  refine tl_step rfl (oj_val (y_ldb 0 Try.isAgg3 (fe_t rfl) rfl rfl) ?_)
  refine tl_step rfl (oj_val (y_fieldAddr (td := 3) Try.underlying23 rfl rfl Try.sizeOf3 (o' := 1) rfl (fe_t rfl)) ?_)
  refine tl_step rfl (oj_val (y_ldb 0 Try.isAgg3 (fe_t rfl) rfl rfl) ?_)
  refine tl_step rfl (oj_val (y_quot (fe_t rfl) (fe_t rfl) (by omega) (by omega)) ?_)
  refine tl_step rfl (oj_val (y_assign (fe_t rfl)) ?_)
  refine tl_nil ?_
  refine tx_then ?_
  refine tr_seq ?_
  refine tr_seq ?_
  refine tr_region ?_
  refine tl_step rfl (oj_val (y_fieldAddr (td := 3) Try.underlying23 rfl rfl Try.sizeOf3 (o' := 0) rfl (fe_t rfl)) ?_)
  refine tl_step rfl (oj_val (y_ldb 0 Try.isAgg3 (fe_t rfl) rfl rfl) ?_)
  refine tl_step rfl (oj_val (y_fieldAddr (td := 3) Try.underlying23 rfl rfl Try.sizeOf3 (o' := 1) rfl (fe_t rfl)) ?_)
  refine tl_step rfl (oj_val (y_ldb 0 Try.isAgg3 (fe_t rfl) rfl rfl) ?_)
  refine tl_step rfl (oj_val (y_remt (fe_t rfl) (fe_t rfl) (by omega)) ?_)
  refine tl_step rfl (oj_val (y_lss (fe_t rfl) fe_c) ?_)
  refine tl_nil ?_
  refine tx_then ?_
  refine tr_condp (fe_t rfl) (fun hq1 => ?_) (fun hq2 => ?_)
  · have he := (em_neg (x := n) (y := d) (by omega) hq1).2 (by omega)
    refine tr_region ?_
    refine tl_step rfl (oj_val (y_move (fe_t rfl)) ?_)
    refine tl_step rfl (oj_val (y_sub (fe_t rfl) fe_c (by omega)) ?_)
    refine tl_step rfl (oj_val (y_assign (fe_t rfl)) ?_)
    refine tl_nil ?_
    refine tx_then ?_
    refine tr_seq ?_
    refine tr_region ?_
    refine tl_step rfl (oj_val (y_move (fe_t rfl)) ?_)
    refine tl_step rfl (oj_val (y_assign (fe_t rfl)) ?_)
    refine tl_step rfl (oj_val (y_assign fe_c) ?_)
    refine tl_nil ?_
    refine tx_then ?_
    refine tr_ret ?_
    refine tx_ret (res2 Try.results26 (rok_t rfl) (rok_t rfl)) (fun w' hS => ?_)
    exact ⟨by first | rfl | rw [he.1], hS.pick [] _ rfl (by decide)⟩
  · have he := em_pos (x := n) (y := d) hq2
    refine tr_skip ?_
    refine tx_then ?_
    refine tr_seq ?_
    refine tr_region ?_
    refine tl_step rfl (oj_val (y_move (fe_t rfl)) ?_)
    refine tl_step rfl (oj_val (y_assign (fe_t rfl)) ?_)
    refine tl_step rfl (oj_val (y_assign fe_c) ?_)
    refine tl_nil ?_
    refine tx_then ?_
    refine tr_ret ?_
    refine tx_ret (res2 Try.results26 (rok_t rfl) (rok_t rfl)) (fun w' hS => ?_)
    exact ⟨by first | rfl | rw [he.1], hS.pick [] _ rfl (by decide)⟩

set_option maxRecDepth 100000 in
set_option maxHeartbeats 1000000 in
theorem floor_bad {n d : Int} (ha : bright n d = false) (w : World) :
    Calls Try.prog 26 #[.agg #[(.int .i64 n), (.int .i64 d)]] w fun e w' => e = .returned (.tuple #[(.int .i64 0), (.int .i64 2)]) ∧ St w w' [] := by
  refine calls_tr Try.func26 Try.ntmps26 rfl rfl (St.refl _) ?_
  refine tr_seq ?_
  refine tr_region ?_
  refine tl_step rfl (oj_box (fe_t rfl) (fun b1 => ?_))
  refine tl_step rfl (oj_val (y_assign fe_c) ?_)
  refine tl_step rfl (oj_val (y_assign fe_c) ?_)
  refine tl_nil ?_
  refine tx_then ?_
  refine tr_seq ?_
  refine tr_seq ?_
  refine tr_region ?_
  refine tl_step rfl (oj_val (y_ldbA 0 Try.isAgg23 Try.sizeOf23 (fe_t rfl) rfl rfl rfl) ?_)
  refine tl_step rfl (oj_callv Try.call18 fe_f (fel_cons (fe_t rfl) fel_nil) (fun w' hS => rightE ha w') ?_)
  refine tl_step rfl (oj_val (y_not (fe_t rfl)) ?_)
  refine tl_nil ?_
  refine tx_then ?_
  refine tr_condt (fe_t rfl) ?_
  refine tr_seq ?_
  refine tr_region ?_
  refine tl_step rfl (oj_val (y_assign fe_c) ?_)
  refine tl_step rfl (oj_val (y_assign fe_c) ?_)
  refine tl_nil ?_
  refine tx_then ?_
  refine tr_ret ?_
  refine tx_then_ret ?_
  refine tx_ret (res2 Try.results26 (rok_t rfl) (rok_t rfl)) (fun w' hS => ?_)
  exact ⟨by first | rfl | rw [he.1], hS.pick [] _ rfl (by decide)⟩

set_option maxRecDepth 100000 in
set_option maxHeartbeats 1000000 in
theorem ceil_ok {n d : Int} (h0 : -9223372036854775807 ≤ n) (h1 : n ≤ 9223372036854775807) (hb : bright (-n) d = true) (w : World) :
    Calls Try.prog 27 #[.agg #[(.int .i64 n), (.int .i64 d)]] w fun e w' => e = .returned (.tuple #[(.int .i64 (-(-n / d))), (.int .i64 0)]) ∧ St w w' [] := by
  obtain ⟨a1, a2, a3, a4⟩ := bright_iff.1 hb
  have hq : (-n / d).natAbs ≤ (-n).natAbs + 1 := ediv_bd a1
  refine calls_tr Try.func27 Try.ntmps27 rfl rfl (St.refl _) ?_
  refine tr_seq ?_
  refine tr_region ?_
  refine tl_step rfl (oj_box (fe_t rfl) (fun b1 => ?_))
  refine tl_step rfl (oj_val (y_assign fe_c) ?_)
  refine tl_step rfl (oj_val (y_assign fe_c) ?_)
  refine tl_nil ?_
  refine tx_then ?_
  refine tr_seq ?_
  refine tr_region ?_
  refine tl_step rfl (oj_val (y_fieldAddr (td := 3) Try.underlying23 rfl rfl Try.sizeOf3 (o' := 0) rfl (fe_t rfl)) ?_)
  refine tl_step rfl (oj_val (y_ldb 0 Try.isAgg3 (fe_t rfl) rfl rfl) ?_)
  refine tl_step rfl (oj_val (y_neg (fe_t rfl) (by omega)) ?_)
  refine tl_step rfl (oj_val (y_fieldAddr (td := 3) Try.underlying23 rfl rfl Try.sizeOf3 (o' := 1) rfl (fe_t rfl)) ?_)
  refine tl_step rfl (oj_val (y_ldb 0 Try.isAgg3 (fe_t rfl) rfl rfl) ?_)
  refine tl_step rfl (oj_val ((fun {u0 u1} hx hb => y_build (is := [0, 1]) (vs := [u0, u1]) (cs := [u0, u1]) rfl hx hb) (fel_cons (fe_t rfl) (fel_cons (fe_t rfl) fel_nil)) (by kernel_rfl)) ?_)
  refine tl_step rfl (oj_callv Try.call26 fe_f (fel_cons (fe_t rfl) fel_nil) (fun w' hS => floor_ok hb w') ?_)
  refine tl_step rfl (oj_val (y_move (fe_t rfl)) ?_)
  refine tl_step rfl (oj_val (y_extract (fe_t rfl) rfl) ?_)
  refine tl_step rfl (oj_val (y_extract (fe_t rfl) rfl) ?_)
  refine tl_step rfl (oj_val (y_assign (fe_t rfl)) ?_)
  refine tl_step rfl (oj_val (y_assign (fe_t rfl)) ?_)
  refine tl_nil ?_
  refine tx_then ?_
  refine tr_seq ?_
  refine tr_region ?_
  refine tl_step rfl (oj_val (y_move (fe_t rfl)) ?_)
  refine tl_step rfl (oj_val (y_neg (fe_t rfl) (by omega)) ?_)
  refine tl_step rfl (oj_val (y_move (fe_t rfl)) ?_)
  refine tl_step rfl (oj_val (y_assign (fe_t rfl)) ?_)
  refine tl_step rfl (oj_val (y_assign (fe_t rfl)) ?_)
  refine tl_nil ?_
  refine tx_then ?_
  refine tr_ret ?_
  refine tx_ret (res2 Try.results27 (rok_t rfl) (rok_t rfl)) (fun w' hS => ?_)
  exact ⟨rfl, hS.pick [] _ rfl (by decide)⟩

set_option maxRecDepth 100000 in
set_option maxHeartbeats 1000000 in
theorem ceil_bad {n d : Int} (hb : bright (IntKind.i64.wrap (-n)) d = false) (w : World) :
    Calls Try.prog 27 #[.agg #[(.int .i64 n), (.int .i64 d)]] w fun e w' => e = .returned (.tuple #[(.int .i64 0), (.int .i64 2)]) ∧ St w w' [] := by
  refine calls_tr Try.func27 Try.ntmps27 rfl rfl (St.refl _) ?_
  refine tr_seq ?_
  refine tr_region ?_
  refine tl_step rfl (oj_box (fe_t rfl) (fun b1 => ?_))
  refine tl_step rfl (oj_val (y_assign fe_c) ?_)
  refine tl_step rfl (oj_val (y_assign fe_c) ?_)
  refine tl_nil ?_
  refine tx_then ?_
  refine tr_seq ?_
  refine tr_region ?_
  refine tl_step rfl (oj_val (y_fieldAddr (td := 3) Try.underlying23 rfl rfl Try.sizeOf3 (o' := 0) rfl (fe_t rfl)) ?_)
  refine tl_step rfl (oj_val (y_ldb 0 Try.isAgg3 (fe_t rfl) rfl rfl) ?_)
  refine tl_step rfl (oj_val (y_negk (fe_t rfl)) ?_)
  refine tl_step rfl (oj_val (y_fieldAddr (td := 3) Try.underlying23 rfl rfl Try.sizeOf3 (o' := 1) rfl (fe_t rfl)) ?_)
  refine tl_step rfl (oj_val (y_ldb 0 Try.isAgg3 (fe_t rfl) rfl rfl) ?_)
  refine tl_step rfl (oj_val ((fun {u0 u1} hx hb => y_build (is := [0, 1]) (vs := [u0, u1]) (cs := [u0, u1]) rfl hx hb) (fel_cons (fe_t rfl) (fel_cons (fe_t rfl) fel_nil)) (by kernel_rfl)) ?_)
  refine tl_step rfl (oj_callv Try.call26 fe_f (fel_cons (fe_t rfl) fel_nil) (fun w' hS => floor_bad hb w') ?_)
  refine tl_step rfl (oj_val (y_move (fe_t rfl)) ?_)
  refine tl_step rfl (oj_val (y_extract (fe_t rfl) rfl) ?_)
  refine tl_step rfl (oj_val (y_extract (fe_t rfl) rfl) ?_)
  refine tl_step rfl (oj_val (y_assign (fe_t rfl)) ?_)
  refine tl_step rfl (oj_val (y_assign (fe_t rfl)) ?_)
  refine tl_nil ?_
  refine tx_then ?_
  refine tr_seq ?_
  refine tr_region ?_
  refine tl_step rfl (oj_val (y_move (fe_t rfl)) ?_)
  refine tl_step rfl (oj_val (y_neg (fe_t rfl) (by omega)) ?_)
  refine tl_step rfl (oj_val (y_move (fe_t rfl)) ?_)
  refine tl_step rfl (oj_val (y_assign (fe_t rfl)) ?_)
  refine tl_step rfl (oj_val (y_assign (fe_t rfl)) ?_)
  refine tl_nil ?_
  refine tx_then ?_
  refine tr_ret ?_
  refine tx_ret (res2 Try.results27 (rok_t rfl) (rok_t rfl)) (fun w' hS => ?_)
  exact ⟨rfl, hS.pick [] _ rfl (by decide)⟩

set_option maxRecDepth 100000 in
set_option maxHeartbeats 1000000 in
theorem low_ok {n d : Int} (ha : bright n d = true) (w : World) :
    Calls Try.prog 25 #[.agg #[(.int .i64 n), (.int .i64 d)]] w fun e w' => e = .returned (.tuple #[.agg #[(.int .i64 (n.tdiv (Int.gcd n d : Int))), (.int .i64 (d.tdiv (Int.gcd n d : Int)))], (.int .i64 0)]) ∧ St w w' [] := by
  obtain ⟨a1, a2, a3, a4⟩ := bright_iff.1 ha
  obtain ⟨e0, e1⟩ := gcd_facts (a := n) a1
  refine calls_tr Try.func25 Try.ntmps25 rfl rfl (St.refl _) ?_
  refine tr_seq ?_
  refine tr_region ?_
  refine tl_step rfl (oj_box (fe_t rfl) (fun b1 => ?_))
  refine tl_step rfl (oj_alloc Try.zeroValue23 (fun b2 => ?_))
  refine tl_step rfl (oj_val (y_assign fe_c) ?_)
  refine tl_nil ?_
  refine tx_then ?_
  refine tr_seq ?_
  refine tr_seq ?_
  refine tr_region ?_
  refine tl_step rfl (oj_val (y_ldbA 1 Try.isAgg23 Try.sizeOf23 (fe_t rfl) rfl rfl rfl) ?_)
  refine tl_step rfl (oj_callv Try.call18 fe_f (fel_cons (fe_t rfl) fel_nil) (fun w' hS => rightE ha w') ?_)
  refine tl_step rfl (oj_val (y_not (fe_t rfl)) ?_)
  refine tl_nil ?_
  refine tx_then ?_
  refine tr_condf (fe_t rfl) ?_
  refine tr_skip ?_
  refine tx_then ?_
  refine tr_seq ?_
  refine tr_region ?_
  refine tl_step rfl (oj_val (y_fieldAddr (td := 3) Try.underlying23 rfl rfl Try.sizeOf3 (o' := 0) rfl (fe_t rfl)) ?_)
  refine tl_step rfl (oj_val (y_ldb 1 Try.isAgg3 (fe_t rfl) rfl rfl) ?_)
  refine tl_step rfl (oj_val (y_fieldAddr (td := 3) Try.underlying23 rfl rfl Try.sizeOf3 (o' := 1) rfl (fe_t rfl)) ?_)
  refine tl_step rfl (oj_val (y_ldb 1 Try.isAgg3 (fe_t rfl) rfl rfl) ?_)
  refine tl_step rfl (oj_callv Try.call109 fe_f (fel_cons (fe_t rfl) (fel_cons (fe_t rfl) fel_nil)) (fun w' hS => gcdE n d (by omega) (by omega) w') ?_)
  refine tl_step rfl (oj_val (y_assign (fe_t rfl)) ?_)
  refine tl_nil ?_
  refine tx_then ?_
  refine tr_seq ?_
  refine tb_draw 9 (sel _ [1]) (fun w h => h.sel _ rfl (by decide)) rfl ?_
  refine tb_float (i := 0) rfl (by kernel_rfl) rfl (wants_none rfl) (yq_of (y_fieldAddr (td := 3) Try.underlying23 rfl rfl Try.sizeOf3 (o' := 0) rfl (fe_t rfl))) ?_
  refine tb_float (i := 1) rfl (by kernel_rfl) rfl (wants_none rfl) (yq_of (y_ldb 0 Try.isAgg3 (fe_t rfl) rfl rfl)) ?_
  refine tb_float (i := 2) rfl (by kernel_rfl) rfl (wants_none rfl) (yq_of (y_move (fe_t rfl))) ?_
  refine tb_float (i := 3) rfl (by kernel_rfl) rfl (wants_none rfl) (yq_of (y_quot (fe_t rfl) (fe_t rfl) (by omega) (by omega))) ?_
  refine tb_float (i := 4) rfl (by kernel_rfl) rfl (wants_none rfl) (yq_of (y_fieldAddr (td := 3) Try.underlying23 rfl rfl Try.sizeOf3 (o' := 1) rfl (fe_t rfl))) ?_
  refine tb_float (i := 5) rfl (by kernel_rfl) rfl (wants_none rfl) (yq_of (y_ldb 0 Try.isAgg3 (fe_t rfl) rfl rfl)) ?_
  refine tb_float (i := 6) rfl (by kernel_rfl) rfl (wants_none rfl) (yq_of (y_move (fe_t rfl))) ?_
  refine tb_float (i := 7) rfl (by kernel_rfl) rfl (wants_none rfl) (yq_of (y_quot (fe_t rfl) (fe_t rfl) (by omega) (by omega))) ?_
  refine tb_float (i := 8) rfl (by kernel_rfl) rfl (wants_none rfl) (yq_of ((fun {u0 u1} hx hb => y_build (is := [0, 1]) (vs := [u0, u1]) (cs := [u0, u1]) rfl hx hb) (fel_cons (fe_t rfl) (fel_cons (fe_t rfl) fel_nil)) (by kernel_rfl))) ?_
  refine tb_one2 (i := 9) rfl (by kernel_rfl) (by kernel_rfl) (wants_none rfl) (oj_storeW 0 Try.sizeOf23 (fe_t rfl) (fe_t rfl) rfl rfl rfl rfl rfl (⟨fun w h => h.pick [1] _ rfl (by decide), ?_⟩))
  refine tb_float (i := 10) rfl (by kernel_rfl) rfl (wants_none rfl) (yq_of (y_assign fe_c)) ?_
  refine tb_done (by kernel_rfl) ?_
  refine tx_then ?_
  refine tr_ret ?_
  refine tx_ret (res2 Try.results25 (rok_b 0 Try.isAgg23 Try.sizeOf23 rfl rfl rfl) (rok_t rfl)) (fun w' hS => ?_)
  exact ⟨rfl, hS.pick [] _ rfl (by decide)⟩

set_option maxRecDepth 100000 in
set_option maxHeartbeats 1000000 in
theorem low_bad {n d : Int} (ha : bright n d = false) (w : World) :
    Calls Try.prog 25 #[.agg #[(.int .i64 n), (.int .i64 d)]] w fun e w' => e = .returned (.tuple #[.agg #[(.int .i64 0), (.int .i64 0)], (.int .i64 2)]) ∧ St w w' [] := by
  refine calls_tr Try.func25 Try.ntmps25 rfl rfl (St.refl _) ?_
  refine tr_seq ?_
  refine tr_region ?_
  refine tl_step rfl (oj_box (fe_t rfl) (fun b1 => ?_))
  refine tl_step rfl (oj_alloc Try.zeroValue23 (fun b2 => ?_))
  refine tl_step rfl (oj_val (y_assign fe_c) ?_)
  refine tl_nil ?_
  refine tx_then ?_
  refine tr_seq ?_
  refine tr_seq ?_
  refine tr_region ?_
  refine tl_step rfl (oj_val (y_ldbA 1 Try.isAgg23 Try.sizeOf23 (fe_t rfl) rfl rfl rfl) ?_)
  refine tl_step rfl (oj_callv Try.call18 fe_f (fel_cons (fe_t rfl) fel_nil) (fun w' hS => rightE ha w') ?_)
  refine tl_step rfl (oj_val (y_not (fe_t rfl)) ?_)
  refine tl_nil ?_
  refine tx_then ?_
  refine tr_condt (fe_t rfl) ?_
  refine tr_seq ?_
  refine tr_region ?_
  refine tl_step rfl (oj_val (y_build (is := []) (vs := []) (cs := [.int .i64 0, .int .i64 0]) rfl fel_nil (by kernel_rfl)) ?_)
  refine tl_step rfl (oj_storeW 0 Try.sizeOf23 (fe_t rfl) (fe_t rfl) rfl rfl rfl rfl rfl (?_))
  refine tl_step rfl (oj_val (y_assign fe_c) ?_)
  refine tl_nil ?_
  refine tx_then ?_
  refine tr_ret ?_
  refine tx_then_ret ?_
  refine tx_ret (res2 Try.results25 (rok_b 0 Try.isAgg23 Try.sizeOf23 rfl rfl rfl) (rok_t rfl)) (fun w' hS => ?_)
  exact ⟨rfl, hS.pick [] _ rfl (by decide)⟩

end Go.Proofs.Ytcpdelkamckmfaa.Frac
