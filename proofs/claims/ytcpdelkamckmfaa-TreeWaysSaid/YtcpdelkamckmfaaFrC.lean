/- How many bits a number has; is it small?. -/
import Derived.Test.YtcpdelkamckmfaaFrZ
namespace Go.Proofs.Ytcpdelkamckmfaa.Frac
open Go.RowKit Go.Proofs.Ytcpdelkamckmfaa.E Go.Proofs.Ytcpdelkamckmfaa.Big

theorem two_pos (k : Nat) : (0 : Int) < 2 ^ k := Int.pow_pos (by decide)
theorem bit_at : ∀ (ds : List Int) (k : Nat), Dig ds → (h : k / 32 < ds.length) → dval ds / 2 ^ k % 2 = ds[k / 32] / 2 ^ (k % 32) % 2
  | [], k, _, h => by simp at h
  | x :: l, k, hD, h => by
    have hx := hD x (List.mem_cons_self ..)
    by_cases hk : k < 32
    · have e1 : k / 32 = 0 := by omega
      have e2 : k % 32 = k := by omega
      have e3 : (4294967296 : Int) = 2 ^ k * (2 * 2 ^ (31 - k)) := by
        rw [← Int.pow_succ', ← Int.pow_add, show k + (31 - k + 1) = 32 by omega]; rfl
      simp only [e1, e2, List.getElem_cons_zero, dval]
      rw [e3, Int.mul_assoc, Int.add_mul_ediv_left _ _ (by have := two_pos k; omega), Int.mul_assoc, Int.add_mul_emod_self_left]
    · obtain ⟨j, rfl⟩ : ∃ j, k = j + 32 := ⟨k - 32, by omega⟩
      have e1 : (j + 32) / 32 = j / 32 + 1 := by omega
      have e2 : (j + 32) % 32 = j % 32 := by omega
      have ih := bit_at l j (fun y hy => hD y (List.mem_cons_of_mem _ hy)) (by simp only [List.length_cons, e1] at h; omega)
      simp only [e1, e2, List.getElem_cons_succ, dval]
      rw [← ih, Nat.add_comm j 32, Int.pow_add, ← Int.ediv_ediv_of_nonneg (by decide)]
      congr 2
      rw [show (2 : Int) ^ 32 = 4294967296 from rfl]
      omega
theorem dval_lt2 : ∀ {ds : List Int}, Dig ds → dval ds < 2 ^ (32 * ds.length)
  | [], _ => by simp [dval]
  | x :: l, hD => by
    have hx := hD x (List.mem_cons_self ..)
    have ih := dval_lt2 (ds := l) (fun y hy => hD y (List.mem_cons_of_mem _ hy))
    rw [List.length_cons, Nat.mul_succ, Nat.add_comm, Int.pow_add, show (2 : Int) ^ 32 = 4294967296 from rfl, dval]
    omega
theorem bl_step {v : Int} {k : Nat} (h0 : 0 ≤ v) (h : v < 2 ^ (k + 1)) (hb : v / 2 ^ k % 2 = 0) : v < 2 ^ k := by
  have hp := two_pos k
  have h1 : v / 2 ^ k < 2 := by rw [Int.ediv_lt_iff_lt_mul hp]; rw [Int.pow_succ'] at h; exact h
  have h2 : 0 ≤ v / 2 ^ k := Int.ediv_nonneg h0 (by omega)
  have h3 : v / 2 ^ k = 0 := by omega
  have h4 := Int.mul_ediv_add_emod v (2 ^ k)
  have h5 := Int.emod_lt_of_pos v hp
  rw [h3, Int.mul_zero, Int.zero_add] at h4
  omega
theorem bl_end {v : Int} {k : Nat} (h0 : 0 ≤ v) (hb : ¬ v / 2 ^ k % 2 = 0) : (2 : Int) ^ k ≤ v := by
  have hp := two_pos k
  by_cases h : v < 2 ^ k
  · rw [Int.ediv_eq_zero_of_lt h0 h] at hb
    exact absurd rfl hb
  · omega
/-- How many bits. -/
def bl (v : Nat) : Nat := if v = 0 then 0 else v.log2 + 1
theorem bl_eq {v n : Nat} (h1 : (v : Int) < 2 ^ n) (h2 : n = 0 ∨ (2 : Int) ^ (n - 1) ≤ v) : bl v = n := by
  have c : ∀ k : Nat, ((2 ^ k : Nat) : Int) = 2 ^ k := fun k => by rw [Int.natCast_pow]; rfl
  unfold bl
  split
  · rename_i h
    subst h
    rcases h2 with h2 | h2
    · exact h2.symm
    · have := two_pos (n - 1); simp at h2; omega
  · rename_i h
    rcases h2 with h2 | h2
    · subst h2; simp at h1; omega
    · have a : v < 2 ^ n := by have := c n; omega
      have b : 2 ^ (n - 1) ≤ v := by have := c (n - 1); omega
      have n0 : n ≠ 0 := fun e => by subst e; simp at a; omega
      have a' := (Nat.log2_lt h).2 a
      have b' := (Nat.le_log2 h).2 b
      omega
theorem bl_lt {v k : Nat} (h : v < 2 ^ k) : bl v ≤ k := by
  unfold bl
  split
  · omega
  · rename_i h0
    have := (Nat.log2_lt h0).2 h
    omega
theorem u32_bit (x : Int) (h0 : 0 ≤ x) (h1 : x < 4294967296) {P : Program} (w : World) : (Op.intBits .and .u32 x 1).run P w = .ok (.int .u32 (x % 2)) w := by
  have e : bits .and .u32 x 1 = x % 2 := by
    rw [u32_and x 1 h0 (by omega) (by omega) (by omega), show (1 : Int).toNat = 1 from rfl, Nat.and_one_is_mod]
    omega
  simp only [Op.intBits]
  first | (rw [← e]; rfl) | simp [bits] at e ⊢

theorem shr_at {a : Int} {m : Nat} (h : 0 ≤ a ∧ a < 4294967296) (hm : m < 32) : a.fdiv (2 ^ (min (m : Int).toNat IntKind.u32.bits)) = a / 2 ^ m := by
  rw [Int.toNat_natCast, show min m IntKind.u32.bits = m from Nat.min_eq_left (by show m ≤ 32; omega)]
  exact Int.fdiv_eq_ediv_of_nonneg _ (by have := two_pos m; omega)
set_option maxRecDepth 100000 in
set_option maxHeartbeats 2000000 in
theorem bitlenB {w0 w : World} {T : List Res} {H D : List Nat} {l : List Ent} (hS : St w0 w (bag H D l :: T)) {b_x o_x : Nat} {x : Nm} {zx : Int} (mx : (⟨b_x, o_x, x⟩ : Ent) ∈ l) (hx : x.is zx) (lx : x.n ≤ 100000) :
    Calls Try.prog 112 #[.pointer (some ⟨b_x, o_x, none⟩)] w fun e w' => ∃ r : BG, True ∧ e = .returned (.int .i64 ((bl zx.natAbs : Nat) : Int)) ∧ St w0 w' (bag r.H r.D l :: T) := by
  have lx1 := hx.len
  refine calls_tr Try.func112 Try.ntmps112 rfl rfl hS ?_
  refine tr_seq ?_
  refine tr_region ?_
  refine tl_step rfl (oj_val (y_assign fe_c) ?_)
  refine tl_nil ?_
  refine tx_then ?_
  refine tr_seq ?_
  refine tr_region ?_
  refine tl_step rfl (oj_val (y_move (fe_t rfl)) ?_)
  refine tl_step rfl (oj_val (y_nilCheck (fe_t rfl)) ?_)
  refine tl_step rfl (oj_val (y_fieldAddr (td := 33) Try.underlying35 rfl rfl Try.sizeOf33 (o' := o_x + 1) rfl (fe_t rfl)) ?_)
  refine tl_step rfl (oj_val (y_ldN2 0 Try.isAgg33 (fe_t rfl) rfl mx) ?_)
  refine tl_step rfl (oj_val (y_len Try.underlying33 (fe_t rfl)) ?_)
  refine tl_step rfl (oj_val (y_as (b := ((32 * x.n : Nat) : Int)) (y_mul (fe_t rfl) fe_c (by omega)) (by omega)) ?_)
  refine tl_step rfl (oj_val (y_assign (fe_t rfl)) ?_)
  refine tl_nil ?_
  refine tx_then ?_
  refine tr_seq ?_
  refine tr_block ?_
  refine tr_loop1 [3, 10, 11, 12, 13, 14, 15, 16, 17, 18, 19, 20, 21, 22, 23, 24, 25, 26, 27, 28, 29, 30] (fun (n : Nat) => [(3, .int .i64 (n : Int))]) 0 (fun (n : Nat) => []) (fun (n : Nat) => n ≤ 32 * x.n ∧ dval x.ds < 2 ^ n) (fun (n : Nat) => n) (32 * x.n) (cov_cons (by first | rfl | exact v_int (by omega) | exact v_bool (by simp [*])) (cov_nil)) (fun w h => h) ?_ ?_
  · try dsimp only
    exact ⟨Nat.le_refl _, by rw [← hx.len]; exact dval_lt2 hx.dig⟩
  intro n hp
  obtain ⟨hn, hv⟩ := hp
  refine tr_seq ?_
  refine tr_seq ?_
  refine tr_region ?_
  refine tl_step rfl (oj_val (y_move (fe_t rfl)) ?_)
  refine tl_step rfl (oj_val (y_gtr (fe_t rfl) fe_c) ?_)
  refine tl_step rfl (oj_val (y_move (fe_t rfl)) ?_)
  refine tl_splitp (d := 12) rfl (fun hq1 => ?_) (fun hq2 => ?_)
  · have hdg := hx.dig.get (k := (n - 1) / 32) (by omega)
    have hpw := two_pos ((n - 1) % 32)
    have hd0 : 0 ≤ x.ds[(n - 1) / 32]'(by omega) / 2 ^ ((n - 1) % 32) := Int.ediv_nonneg (by omega) (by omega)
    have hd1 : x.ds[(n - 1) / 32]'(by omega) / 2 ^ ((n - 1) % 32) ≤ x.ds[(n - 1) / 32]'(by omega) := Int.ediv_le_self _ (by omega)
    have hba := bit_at x.ds (n - 1) hx.dig (by omega)
    refine tl_want rfl rfl rfl (oj_val (y_move (fe_t rfl)) ?_)
    refine tl_want rfl rfl rfl (oj_val (y_nilCheck (fe_t rfl)) ?_)
    refine tl_want rfl rfl rfl (oj_val (y_fieldAddr (td := 33) Try.underlying35 rfl rfl Try.sizeOf33 (o' := o_x + 1) rfl (fe_t rfl)) ?_)
    refine tl_want rfl rfl rfl (oj_val (y_ldN2 0 Try.isAgg33 (fe_t rfl) rfl mx) ?_)
    refine tl_want rfl rfl rfl (oj_val (y_move (fe_t rfl)) ?_)
    refine tl_want rfl rfl rfl (oj_val (y_dec (fe_t rfl) fe_c (by omega)) ?_)
    refine tl_want rfl rfl rfl (oj_val (y_as (b := (((n - 1) / 32 : Nat) : Int)) (y_quo (fe_t rfl) fe_c (by omega)) (by omega)) ?_)
    refine tl_want rfl rfl rfl (oj_val (y_index Try.underlying33 Try.sizeOf153 (fe_t rfl) (fe_t rfl) (rdl_bag 0 rfl mx) (by rw [cU_len, hx.len, Nat.mul_one]) (by decide) (by omega) (Nat.mul_one _)) ?_)
    refine tl_want rfl rfl rfl (oj_val (y_ld (v := .int .u32 (x.ds[(n - 1) / 32]'(by omega))) Try.isAgg153 (fe_t rfl) (rdl_bag 0 rfl mx) (cU_get (by omega))) ?_)
    refine tl_want rfl rfl rfl (oj_val (y_move (fe_t rfl)) ?_)
    refine tl_want rfl rfl rfl (oj_val (y_dec (fe_t rfl) fe_c (by omega)) ?_)
    refine tl_want rfl rfl rfl (oj_val (y_as (b := (((n - 1) % 32 : Nat) : Int)) (y_rem (fe_t rfl) fe_c (by omega)) (by omega)) ?_)
    refine tl_want rfl rfl rfl (oj_val (y_as (b := x.ds[(n - 1) / 32]'(by omega) / 2 ^ ((n - 1) % 32)) (y_shr (fe_t rfl) (fe_t rfl) (by omega)) (shr_at hdg (by omega))) ?_)
    refine tl_want rfl rfl rfl (oj_val (y_bits (.inl rfl) (fe_t rfl) fe_c (fun w => u32_bit _ (by omega) (by omega) w)) ?_)
    refine tl_want rfl rfl rfl (oj_val (y_eq (fe_t rfl) fe_c) ?_)
    refine tl_step rfl (oj_val (y_pickt (fe_t rfl) (fe_t rfl)) ?_)
    refine tl_nil ?_
    refine tx_then ?_
    refine tr_condp (fe_t rfl) (fun hq3 => ?_) (fun hq4 => ?_)
    · refine tr_skip ?_
      refine tx_then ?_
      refine tr_block ?_
      refine tr_region ?_
      refine tl_step rfl (oj_val (y_move (fe_t rfl)) ?_)
      refine tl_step rfl (oj_val (y_dec (fe_t rfl) fe_c (by omega)) ?_)
      refine tl_step rfl (oj_val (y_assign (fe_t rfl)) ?_)
      refine tl_nil ?_
      refine tx_in ?_
      apply tx_back1 (n - 1)
      · exact (cov_cons (by first | rfl | exact v_int (by omega) | exact v_bool (by simp [*])) (cov_nil))
      · repeat (first | exact over_nil | refine over_put rfl ?_ | refine over_drop rfl ?_)
      · exact fun w h => h
      · exact ⟨⟨by omega, bl_step (dval_nonneg hx.dig) (by rwa [show n - 1 + 1 = n by omega]) (by rw [hba]; assumption)⟩, by omega⟩
    · refine tr_exit ?_
      refine tx_then_exit ?_
      refine tx_then_exit ?_
      refine tx_in_exit ?_
      refine tx_then ?_
      refine tr_seq ?_
      refine tr_region ?_
      refine tl_step rfl (oj_val (y_move (fe_t rfl)) ?_)
      refine tl_step rfl (oj_val (y_assign (fe_t rfl)) ?_)
      refine tl_nil ?_
      refine tx_then ?_
      refine tr_ret ?_
      refine tx_ret (res1 Try.results112 (rok_t rfl)) (fun w' hS => ?_)
      have he : bl zx.natAbs = n := bl_eq (by rw [← nm_abs hx]; exact hv) (by rw [← nm_abs hx]; first | exact .inl (by omega) | exact .inr (bl_end (dval_nonneg hx.dig) (by rw [hba]; assumption)))
      have hS' : St w0 w' (bag _ _ (l) :: T) := hS
      exact finG hS' (by rw [he])
  · refine tl_skip rfl rfl rfl rfl ?_
    refine tl_skip rfl rfl rfl rfl ?_
    refine tl_skip rfl rfl rfl rfl ?_
    refine tl_skip rfl rfl rfl rfl ?_
    refine tl_skip rfl rfl rfl rfl ?_
    refine tl_skip rfl rfl rfl rfl ?_
    refine tl_skip rfl rfl rfl rfl ?_
    refine tl_skip rfl rfl rfl rfl ?_
    refine tl_skip rfl rfl rfl rfl ?_
    refine tl_skip rfl rfl rfl rfl ?_
    refine tl_skip rfl rfl rfl rfl ?_
    refine tl_skip rfl rfl rfl rfl ?_
    refine tl_skip rfl rfl rfl rfl ?_
    refine tl_skip rfl rfl rfl rfl ?_
    refine tl_skip rfl rfl rfl rfl ?_
    refine tl_step rfl (oj_val (y_pickf (fe_t rfl) fe_c) ?_)
    refine tl_nil ?_
    refine tx_then ?_
    refine tr_condf (fe_t rfl) ?_
    refine tr_exit ?_
    refine tx_then_exit ?_
    refine tx_then_exit ?_
    refine tx_in_exit ?_
    refine tx_then ?_
    refine tr_seq ?_
    refine tr_region ?_
    refine tl_step rfl (oj_val (y_move (fe_t rfl)) ?_)
    refine tl_step rfl (oj_val (y_assign (fe_t rfl)) ?_)
    refine tl_nil ?_
    refine tx_then ?_
    refine tr_ret ?_
    refine tx_ret (res1 Try.results112 (rok_t rfl)) (fun w' hS => ?_)
    have he : bl zx.natAbs = n := bl_eq (by rw [← nm_abs hx]; exact hv) (by rw [← nm_abs hx]; first | exact .inl (by omega) | exact .inr (bl_end (dval_nonneg hx.dig) (by rw [hba]; assumption)))
    have hS' : St w0 w' (bag _ _ (l) :: T) := hS
    exact finG hS' (by rw [he])

set_option maxRecDepth 100000 in
set_option maxHeartbeats 1000000 in
theorem isint64B {w0 w : World} {T : List Res} {H D : List Nat} {l : List Ent} (hS : St w0 w (bag H D l :: T)) {b_x o_x : Nat} {x : Nm} {zx : Int} (mx : (⟨b_x, o_x, x⟩ : Ent) ∈ l) (hx : x.is zx) (g0 : -9223372036854775808 < zx) (g1 : zx < 9223372036854775808) :
    Calls Try.prog 105 #[.pointer (some ⟨b_x, o_x, none⟩)] w fun e w' => ∃ r : BG, True ∧ e = .returned (.bool true) ∧ St w0 w' (bag r.H r.D l :: T) := by
  have lx := nm_sm hx (sm_of (by omega) (by omega))
  have hb := bl_lt (v := zx.natAbs) (k := 63) (by omega)
  refine calls_tr Try.func105 Try.ntmps105 rfl rfl hS ?_
  refine tr_seq ?_
  refine tr_region ?_
  refine tl_step rfl (oj_val (y_assign fe_c) ?_)
  refine tl_nil ?_
  refine tx_then ?_
  refine tr_seq ?_
  refine tr_seq ?_
  refine tr_region ?_
  refine tl_step rfl (oj_val (y_move (fe_t rfl)) ?_)
  refine tl_step rfl (oj_call2 Try.call112 fe_f (fel_cons (fe_t rfl) fel_nil) (fun w' hS => lift 0 hS rfl (fun T hS => bitlenB hS mx hx (by omega))) (fun r1 _ => ?_))
  refine tl_step rfl (oj_val (y_lss (fe_t rfl) fe_c) ?_)
  refine tl_nil ?_
  refine tx_then ?_
  refine tr_condp (fe_t rfl) (fun hq1 => ?_) (fun hq2 => ?_)
  · refine tr_seq ?_
    refine tr_region ?_
    refine tl_step rfl (oj_val (y_assign fe_c) ?_)
    refine tl_nil ?_
    refine tx_then ?_
    refine tr_ret ?_
    refine tx_then_ret ?_
    refine tx_ret (res1 Try.results105 (rok_t rfl)) (fun w' hS => ?_)
    have hS' : St w0 w' (bag _ _ (l) :: T) := hS
    exact finG hS' (rfl)
  · exfalso; omega

end Go.Proofs.Ytcpdelkamckmfaa.Frac

namespace Go.Proofs.Ytcpdelkamckmfaa.Frac
open Go.RowKit Go.Proofs.Ytcpdelkamckmfaa.E Go.Proofs.Ytcpdelkamckmfaa.Big

set_option maxRecDepth 100000 in
set_option maxHeartbeats 1000000 in
theorem bratB {w0 w : World} {T : List Res} {H D : List Nat} {l : List Ent} (hS : St w0 w (bag H D l :: T)) (n d : Int) (ha : bright n d = true) :
    Calls Try.prog 20 #[.agg #[(.int .i64 n), (.int .i64 d)]] w fun e w' => ∃ r : BR, RatIs r.q r.r (mkRat n d.toNat) ∧ e = .returned (.pointer (some ⟨r.b, 0, none⟩)) ∧ St w0 w' (bag r.H r.D (⟨r.b, 0, r.q⟩ :: ⟨r.b, 2, r.r⟩ :: l) :: T) := by
  obtain ⟨a1, a2, a3, a4⟩ := bright_iff.1 ha
  refine calls_tr Try.func20 Try.ntmps20 rfl rfl hS ?_
  refine tr_seq ?_
  refine tr_region ?_
  refine tl_step rfl (oj_box (fe_t rfl) (fun fb => ?_))
  refine tl_step rfl (oj_val (y_assign fe_c) ?_)
  refine tl_nil ?_
  refine tx_then ?_
  refine tr_seq ?_
  refine tr_region ?_
  refine tl_step rfl (oj_val (y_fieldAddr (td := 3) Try.underlying23 rfl rfl Try.sizeOf3 (o' := 0) rfl (fe_t rfl)) ?_)
  refine tl_step rfl (oj_val (y_ldb 0 Try.isAgg3 (fe_t rfl) rfl rfl) ?_)
  refine tl_step rfl (oj_val (y_fieldAddr (td := 3) Try.underlying23 rfl rfl Try.sizeOf3 (o' := 1) rfl (fe_t rfl)) ?_)
  refine tl_step rfl (oj_val (y_ldb 0 Try.isAgg3 (fe_t rfl) rfl rfl) ?_)
  refine tl_step rfl (oj_call2 Try.call83 fe_f (fel_cons (fe_t rfl) (fel_cons (fe_t rfl) fel_nil)) (fun w' hS => lift 1 hS rfl (fun T hS => newR hS n d (by omega) (by omega) (by omega) (by omega))) (fun r1 hr1 => ?_))
  refine tl_step rfl (oj_val (y_assign (fe_t rfl)) ?_)
  refine tl_nil ?_
  refine tx_then ?_
  refine tr_ret ?_
  refine tx_ret (res1 Try.results20 (rok_t rfl)) (fun w' hS => ?_)
  have hS := pickT (l := [_, _]) hS [1] rfl (by decide)
  have hS' : St w0 w' (bag _ _ ((⟨r1.b, 0, _⟩ : Ent) :: (⟨r1.b, 2, _⟩ : Ent) :: l) :: T) := hS
  exact finF hS' hr1

/-- A fraction, if it is small enough. -/
def lor (v : Rat) : Int × Int × Int := if bright v.num (v.den : Int) then (v.num, (v.den : Int), 0) else (0, 0, 4)
theorem mk_num {n d : Int} (hd : 0 < d) : (mkRat n d.toNat).num = n.tdiv (Int.gcd n d : Int) ∧ ((mkRat n d.toNat).den : Int) = d.tdiv (Int.gcd n d : Int) := by
  have h0 : d.toNat ≠ 0 := by omega
  have hg : d.toNat.gcd n.natAbs = Int.gcd n d := by
    rw [Nat.gcd_comm, show d.toNat = d.natAbs by omega]; rfl
  constructor
  · rw [Rat.num_mkRat, if_neg h0, hg, ← Int.tdiv_eq_ediv_of_dvd (Int.gcd_dvd_left _ _)]
  · rw [Rat.den_mkRat, if_neg h0, hg, Int.natCast_ediv, show ((d.toNat : Nat) : Int) = d by omega, ← Int.tdiv_eq_ediv_of_nonneg (by omega)]
theorem lor_mk {n d : Int} (hd : 0 < d) : lor (mkRat n d.toNat) = lo n d := by
  obtain ⟨h1, h2⟩ := mk_num (n := n) hd
  rw [lor, lo, h1, h2]
theorem mk_bd {n d : Int} (hd : 0 < d) : (mkRat n d.toNat).num.natAbs ≤ n.natAbs ∧ ((mkRat n d.toNat).den : Int) ≤ d := by
  obtain ⟨h1, h2⟩ := mk_num (n := n) hd
  rw [h1, h2]
  have := tdiv_bd (a := n) (Int.gcd n d : Int)
  have := tdiv_bd (a := d) (Int.gcd n d : Int)
  have : 0 ≤ d.tdiv (Int.gcd n d : Int) := Int.tdiv_nonneg (by omega) (by omega)
  omega
theorem mk_add {n d n' d' : Int} (hd : 0 < d) (hd' : 0 < d') : mkRat n d.toNat + mkRat n' d'.toNat = mkRat (n * d' + n' * d) (d * d').toNat := by
  rw [Rat.mkRat_add_mkRat _ _ (by omega) (by omega), Int.toNat_mul (by omega) (by omega), show ((d.toNat : Nat) : Int) = d by omega, show ((d'.toNat : Nat) : Int) = d' by omega]
theorem mk_mul {n d n' d' : Int} (hd : 0 < d) (hd' : 0 < d') : mkRat n d.toNat * mkRat n' d'.toNat = mkRat (n * n') (d * d').toNat := by
  rw [Rat.mkRat_mul_mkRat, Int.toNat_mul (by omega) (by omega)]
theorem mk_cmp {n d n' d' : Int} (hd : 0 < d) (hd' : 0 < d') : (mkRat n d.toNat - mkRat n' d'.toNat).num.sign = cmpv n d n' d' := by
  have e : mkRat n d.toNat - mkRat n' d'.toNat = mkRat (n * d' - n' * d) (d * d').toNat := by
    rw [Rat.sub_eq_add_neg, Rat.neg_mkRat, mk_add hd hd', Int.neg_mul, ← Int.sub_eq_add_neg]
  have hp : 0 < d * d' := Int.mul_pos hd hd'
  obtain ⟨h1, _⟩ := mk_num (n := n * d' - n' * d) hp
  obtain ⟨g0, _⟩ := gcd_facts (a := n * d' - n' * d) hp
  have hdv : (Int.gcd (n * d' - n' * d) (d * d') : Int) ∣ n * d' - n' * d := Int.gcd_dvd_left _ _
  rw [e, h1]
  generalize (Int.gcd (n * d' - n' * d) (d * d') : Int) = g at *
  generalize hA : n * d' = A at *
  generalize hB : n' * d = B at *
  obtain ⟨q, hq⟩ := hdv
  rw [hq, Int.mul_tdiv_cancel_left _ (by omega)]
  unfold cmpv
  rw [hA, hB]
  have h2 := Int.sign_mul g q
  rw [Int.sign_eq_one_of_pos g0, Int.one_mul, ← hq] at h2
  rw [← h2]
  rcases Int.lt_trichotomy A B with h | h | h
  · rw [if_pos h, Int.sign_eq_neg_one_of_neg (by omega)]
  · subst h; simp
  · rw [if_neg (by omega), if_pos h, Int.sign_eq_one_of_pos (by omega)]

set_option maxRecDepth 100000 in
set_option maxHeartbeats 1000000 in
theorem bfrac_ok {w0 w : World} {T : List Res} {H D : List Nat} {l : List Ent} (hS : St w0 w (bag H D l :: T)) {b_x : Nat} {xa xb : Nm} {vx : Rat} (mxa : (⟨b_x, 0, xa⟩ : Ent) ∈ l) (mxb : (⟨b_x, 2, xb⟩ : Ent) ∈ l) (hx : RatIs xa xb vx) (g0 : -9223372036854775808 < vx.num) (g1 : vx.num < 9223372036854775808) (g2 : (vx.den : Int) < 9223372036854775808) (hr : bright vx.num (vx.den : Int) = true) :
    Calls Try.prog 21 #[.pointer (some ⟨b_x, 0, none⟩)] w fun e w' => ∃ r : BG, True ∧ e = .returned (.tuple #[.agg #[(.int .i64 ((lor vx).1)), (.int .i64 ((lor vx).2.1))], (.int .i64 ((lor vx).2.2))]) ∧ St w0 w' (bag r.H r.D l :: T) := by
  have dx := vx.den_pos
  have sx : Sm vx.num := sm_of (by omega) (by omega)
  have tx : Sm (vx.den : Int) := sm_of (by omega) (by omega)
  refine calls_tr Try.func21 Try.ntmps21 rfl rfl hS ?_
  refine tr_seq ?_
  refine tr_region ?_
  refine tl_step rfl (oj_alloc Try.zeroValue23 (fun ob => ?_))
  refine tl_step rfl (oj_val (y_assign fe_c) ?_)
  refine tl_nil ?_
  refine tx_then ?_
  refine tr_seq ?_
  refine tr_seq ?_
  refine tr_region ?_
  refine tl_step rfl (oj_val (y_move (fe_t rfl)) ?_)
  refine tl_step rfl (oj_call2 Try.call33 fe_f (fel_cons (fe_t rfl) fel_nil) (fun w' hS => lift 1 hS rfl (fun T hS => numR hS mxa mxb hx sx)) (fun r1 hr1 => ?_))
  refine tl_step rfl (oj_call2 Try.call105 fe_f (fel_cons (fe_t rfl) fel_nil) (fun w' hS => lift 1 hS rfl (fun T hS => isint64B hS (pget_mem 0 rfl) hr1 (by omega) (by omega))) (fun r2 _ => ?_))
  refine tl_step rfl (oj_val (y_not (fe_t rfl)) ?_)
  refine tl_step rfl (oj_val (y_move (fe_t rfl)) ?_)
  refine tl_want rfl rfl rfl (oj_val (y_move (fe_t rfl)) ?_)
  refine tl_want rfl rfl rfl (oj_call2 Try.call34 fe_f (fel_cons (fe_t rfl) fel_nil) (fun w' hS => lift 1 hS rfl (fun T hS => denomR hS (List.mem_cons_of_mem _ mxa) (List.mem_cons_of_mem _ mxb) hx tx)) (fun r3 hr3 => ?_))
  refine tl_want rfl rfl rfl (oj_call2 Try.call105 fe_f (fel_cons (fe_t rfl) fel_nil) (fun w' hS => lift 1 hS rfl (fun T hS => isint64B hS (pget_mem 0 rfl) hr3 (by omega) (by omega))) (fun r4 _ => ?_))
  refine tl_want rfl rfl rfl (oj_val (y_not (fe_t rfl)) ?_)
  refine tl_step rfl (oj_val (y_pickf (fe_t rfl) (fe_t rfl)) ?_)
  refine tl_nil ?_
  refine tx_then ?_
  refine tr_condf (fe_t rfl) ?_
  refine tr_skip ?_
  refine tx_then ?_
  refine tr_seq ?_
  refine tr_region ?_
  refine tl_step rfl (oj_val (y_move (fe_t rfl)) ?_)
  refine tl_step rfl (oj_call2 Try.call33 fe_f (fel_cons (fe_t rfl) fel_nil) (fun w' hS => lift 1 hS rfl (fun T hS => numR hS (List.mem_cons_of_mem _ (List.mem_cons_of_mem _ mxa)) (List.mem_cons_of_mem _ (List.mem_cons_of_mem _ mxb)) hx sx)) (fun r5 hr5 => ?_))
  refine tl_step rfl (oj_callv Try.call36 fe_f (fel_cons (fe_t rfl) fel_nil) (fun w' hS => of_eq (int64_any _ _ _ _ (bag_int hS 1 rfl (pget_mem 0 rfl) hr5) (by omega) (by omega))) ?_)
  refine tl_step rfl (oj_val (y_move (fe_t rfl)) ?_)
  refine tl_step rfl (oj_call2 Try.call34 fe_f (fel_cons (fe_t rfl) fel_nil) (fun w' hS => lift 1 hS rfl (fun T hS => denomR hS (List.mem_cons_of_mem _ (List.mem_cons_of_mem _ (List.mem_cons_of_mem _ mxa))) (List.mem_cons_of_mem _ (List.mem_cons_of_mem _ (List.mem_cons_of_mem _ mxb))) hx tx)) (fun r7 hr7 => ?_))
  refine tl_step rfl (oj_callv Try.call36 fe_f (fel_cons (fe_t rfl) fel_nil) (fun w' hS => of_eq (int64_any _ _ _ _ (bag_int hS 1 rfl (pget_mem 0 rfl) hr7) (by omega) (by omega))) ?_)
  refine tl_step rfl (oj_val ((fun {u0 u1} hx hb => y_build (is := [0, 1]) (vs := [u0, u1]) (cs := [u0, u1]) rfl hx hb) (fel_cons (fe_t rfl) (fel_cons (fe_t rfl) fel_nil)) (by kernel_rfl)) ?_)
  refine tl_step rfl (oj_alloc Try.zeroValue23 (fun ab => ?_))
  refine tl_step rfl (oj_storeW 0 Try.sizeOf23 (fe_t rfl) (fe_t rfl) rfl rfl rfl rfl rfl (?_))
  refine tl_nil ?_
  refine tx_then ?_
  refine tr_seq ?_
  refine tr_seq ?_
  refine tr_region ?_
  refine tl_step rfl (oj_val (y_ldbA 0 Try.isAgg23 Try.sizeOf23 (fe_t rfl) rfl rfl rfl) ?_)
  refine tl_step rfl (oj_callv Try.call19 fe_f (fel_cons (fe_t rfl) fel_nil) (fun w' hS => brightE hr w') ?_)
  refine tl_step rfl (oj_val (y_not (fe_t rfl)) ?_)
  refine tl_nil ?_
  refine tx_then ?_
  refine tr_condf (fe_t rfl) ?_
  refine tr_skip ?_
  refine tx_then ?_
  refine tr_seq ?_
  refine tr_region ?_
  refine tl_step rfl (oj_val (y_ldbA 0 Try.isAgg23 Try.sizeOf23 (fe_t rfl) rfl rfl rfl) ?_)
  refine tl_step rfl (oj_storeW 1 Try.sizeOf23 (fe_t rfl) (fe_t rfl) rfl rfl rfl rfl rfl (?_))
  refine tl_step rfl (oj_val (y_assign fe_c) ?_)
  refine tl_nil ?_
  refine tx_then ?_
  refine tr_ret ?_
  refine tx_ret (res2 Try.results21 (rok_b 1 Try.isAgg23 Try.sizeOf23 rfl rfl rfl) (rok_t rfl)) (fun w' hS => ?_)
  have hS := St.bagpick (es := [_, _, _, _]) 2 hS rfl [] rfl (by decide)
  have hS := pickT (l := [_, _, _]) hS [2] rfl (by decide)
  have hS' : St w0 w' (bag _ _ (l) :: T) := hS
  exact finG hS' (by rw [lor, hr]; rfl)

set_option maxRecDepth 100000 in
set_option maxHeartbeats 1000000 in
theorem bfrac_bad {w0 w : World} {T : List Res} {H D : List Nat} {l : List Ent} (hS : St w0 w (bag H D l :: T)) {b_x : Nat} {xa xb : Nm} {vx : Rat} (mxa : (⟨b_x, 0, xa⟩ : Ent) ∈ l) (mxb : (⟨b_x, 2, xb⟩ : Ent) ∈ l) (hx : RatIs xa xb vx) (g0 : -9223372036854775808 < vx.num) (g1 : vx.num < 9223372036854775808) (g2 : (vx.den : Int) < 9223372036854775808) (hr : bright vx.num (vx.den : Int) = false) :
    Calls Try.prog 21 #[.pointer (some ⟨b_x, 0, none⟩)] w fun e w' => ∃ r : BG, True ∧ e = .returned (.tuple #[.agg #[(.int .i64 ((lor vx).1)), (.int .i64 ((lor vx).2.1))], (.int .i64 ((lor vx).2.2))]) ∧ St w0 w' (bag r.H r.D l :: T) := by
  have dx := vx.den_pos
  have sx : Sm vx.num := sm_of (by omega) (by omega)
  have tx : Sm (vx.den : Int) := sm_of (by omega) (by omega)
  refine calls_tr Try.func21 Try.ntmps21 rfl rfl hS ?_
  refine tr_seq ?_
  refine tr_region ?_
  refine tl_step rfl (oj_alloc Try.zeroValue23 (fun ob => ?_))
  refine tl_step rfl (oj_val (y_assign fe_c) ?_)
  refine tl_nil ?_
  refine tx_then ?_
  refine tr_seq ?_
  refine tr_seq ?_
  refine tr_region ?_
  refine tl_step rfl (oj_val (y_move (fe_t rfl)) ?_)
  refine tl_step rfl (oj_call2 Try.call33 fe_f (fel_cons (fe_t rfl) fel_nil) (fun w' hS => lift 1 hS rfl (fun T hS => numR hS mxa mxb hx sx)) (fun r1 hr1 => ?_))
  refine tl_step rfl (oj_call2 Try.call105 fe_f (fel_cons (fe_t rfl) fel_nil) (fun w' hS => lift 1 hS rfl (fun T hS => isint64B hS (pget_mem 0 rfl) hr1 (by omega) (by omega))) (fun r2 _ => ?_))
  refine tl_step rfl (oj_val (y_not (fe_t rfl)) ?_)
  refine tl_step rfl (oj_val (y_move (fe_t rfl)) ?_)
  refine tl_want rfl rfl rfl (oj_val (y_move (fe_t rfl)) ?_)
  refine tl_want rfl rfl rfl (oj_call2 Try.call34 fe_f (fel_cons (fe_t rfl) fel_nil) (fun w' hS => lift 1 hS rfl (fun T hS => denomR hS (List.mem_cons_of_mem _ mxa) (List.mem_cons_of_mem _ mxb) hx tx)) (fun r3 hr3 => ?_))
  refine tl_want rfl rfl rfl (oj_call2 Try.call105 fe_f (fel_cons (fe_t rfl) fel_nil) (fun w' hS => lift 1 hS rfl (fun T hS => isint64B hS (pget_mem 0 rfl) hr3 (by omega) (by omega))) (fun r4 _ => ?_))
  refine tl_want rfl rfl rfl (oj_val (y_not (fe_t rfl)) ?_)
  refine tl_step rfl (oj_val (y_pickf (fe_t rfl) (fe_t rfl)) ?_)
  refine tl_nil ?_
  refine tx_then ?_
  refine tr_condf (fe_t rfl) ?_
  refine tr_skip ?_
  refine tx_then ?_
  refine tr_seq ?_
  refine tr_region ?_
  refine tl_step rfl (oj_val (y_move (fe_t rfl)) ?_)
  refine tl_step rfl (oj_call2 Try.call33 fe_f (fel_cons (fe_t rfl) fel_nil) (fun w' hS => lift 1 hS rfl (fun T hS => numR hS (List.mem_cons_of_mem _ (List.mem_cons_of_mem _ mxa)) (List.mem_cons_of_mem _ (List.mem_cons_of_mem _ mxb)) hx sx)) (fun r5 hr5 => ?_))
  refine tl_step rfl (oj_callv Try.call36 fe_f (fel_cons (fe_t rfl) fel_nil) (fun w' hS => of_eq (int64_any _ _ _ _ (bag_int hS 1 rfl (pget_mem 0 rfl) hr5) (by omega) (by omega))) ?_)
  refine tl_step rfl (oj_val (y_move (fe_t rfl)) ?_)
  refine tl_step rfl (oj_call2 Try.call34 fe_f (fel_cons (fe_t rfl) fel_nil) (fun w' hS => lift 1 hS rfl (fun T hS => denomR hS (List.mem_cons_of_mem _ (List.mem_cons_of_mem _ (List.mem_cons_of_mem _ mxa))) (List.mem_cons_of_mem _ (List.mem_cons_of_mem _ (List.mem_cons_of_mem _ mxb))) hx tx)) (fun r7 hr7 => ?_))
  refine tl_step rfl (oj_callv Try.call36 fe_f (fel_cons (fe_t rfl) fel_nil) (fun w' hS => of_eq (int64_any _ _ _ _ (bag_int hS 1 rfl (pget_mem 0 rfl) hr7) (by omega) (by omega))) ?_)
  refine tl_step rfl (oj_val ((fun {u0 u1} hx hb => y_build (is := [0, 1]) (vs := [u0, u1]) (cs := [u0, u1]) rfl hx hb) (fel_cons (fe_t rfl) (fel_cons (fe_t rfl) fel_nil)) (by kernel_rfl)) ?_)
  refine tl_step rfl (oj_alloc Try.zeroValue23 (fun ab => ?_))
  refine tl_step rfl (oj_storeW 0 Try.sizeOf23 (fe_t rfl) (fe_t rfl) rfl rfl rfl rfl rfl (?_))
  refine tl_nil ?_
  refine tx_then ?_
  refine tr_seq ?_
  refine tr_seq ?_
  refine tr_region ?_
  refine tl_step rfl (oj_val (y_ldbA 0 Try.isAgg23 Try.sizeOf23 (fe_t rfl) rfl rfl rfl) ?_)
  refine tl_step rfl (oj_callv Try.call19 fe_f (fel_cons (fe_t rfl) fel_nil) (fun w' hS => brightE hr w') ?_)
  refine tl_step rfl (oj_val (y_not (fe_t rfl)) ?_)
  refine tl_nil ?_
  refine tx_then ?_
  refine tr_condt (fe_t rfl) ?_
  refine tr_seq ?_
  refine tr_region ?_
  refine tl_step rfl (oj_val (y_build (is := []) (vs := []) (cs := [.int .i64 0, .int .i64 0]) rfl fel_nil (by kernel_rfl)) ?_)
  refine tl_step rfl (oj_storeW 1 Try.sizeOf23 (fe_t rfl) (fe_t rfl) rfl rfl rfl rfl rfl (?_))
  refine tl_step rfl (oj_val (y_assign fe_c) ?_)
  refine tl_nil ?_
  refine tx_then ?_
  refine tr_ret ?_
  refine tx_then_ret ?_
  refine tx_ret (res2 Try.results21 (rok_b 1 Try.isAgg23 Try.sizeOf23 rfl rfl rfl) (rok_t rfl)) (fun w' hS => ?_)
  have hS := St.bagpick (es := [_, _, _, _]) 2 hS rfl [] rfl (by decide)
  have hS := pickT (l := [_, _, _]) hS [2] rfl (by decide)
  have hS' : St w0 w' (bag _ _ (l) :: T) := hS
  exact finG hS' (by rw [lor, hr]; rfl)

theorem bfracB {w0 w : World} {T : List Res} {H D : List Nat} {l : List Ent} (hS : St w0 w (bag H D l :: T)) {b_x : Nat} {xa xb : Nm} {vx : Rat} (mxa : (⟨b_x, 0, xa⟩ : Ent) ∈ l) (mxb : (⟨b_x, 2, xb⟩ : Ent) ∈ l) (hx : RatIs xa xb vx) (g0 : -9223372036854775808 < vx.num) (g1 : vx.num < 9223372036854775808) (g2 : (vx.den : Int) < 9223372036854775808) :
    Calls Try.prog 21 #[.pointer (some ⟨b_x, 0, none⟩)] w fun e w' => ∃ r : BG, True ∧ e = .returned (.tuple #[.agg #[(.int .i64 ((lor vx).1)), (.int .i64 ((lor vx).2.1))], (.int .i64 ((lor vx).2.2))]) ∧ St w0 w' (bag r.H r.D l :: T) := by
  cases hr : bright vx.num (vx.den : Int)
  · exact bfrac_bad hS mxa mxb hx g0 g1 g2 hr
  · exact bfrac_ok hS mxa mxb hx g0 g1 g2 hr
theorem bfracM {w0 w : World} {T : List Res} {H D : List Nat} {l : List Ent} (hS : St w0 w (bag H D l :: T)) {b_x : Nat} {xa xb : Nm} (mxa : (⟨b_x, 0, xa⟩ : Ent) ∈ l) (mxb : (⟨b_x, 2, xb⟩ : Ent) ∈ l) {n d : Int} (hd : 0 < d) (hx : RatIs xa xb (mkRat n d.toNat)) (h0 : -4611686018427387904 ≤ n) (h1 : n ≤ 4611686018427387904) (h3 : d ≤ 4611686018427387904) :
    Calls Try.prog 21 #[.pointer (some ⟨b_x, 0, none⟩)] w fun e w' => ∃ r : BG, True ∧ e = .returned (.tuple #[.agg #[(.int .i64 ((lo (n) (d)).1)), (.int .i64 ((lo (n) (d)).2.1))], (.int .i64 ((lo (n) (d)).2.2))]) ∧ St w0 w' (bag r.H r.D l :: T) := by
  have hb := mk_bd (n := n) hd
  have := bfracB hS mxa mxb hx (by omega) (by omega) (by omega)
  rw [lor_mk hd] at this
  exact this

end Go.Proofs.Ytcpdelkamckmfaa.Frac
