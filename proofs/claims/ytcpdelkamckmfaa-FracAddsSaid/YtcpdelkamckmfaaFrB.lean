/- How many bits a number has; is it small?. -/
import Derived.Test.YtcpdelkamckmfaaFrA
namespace Go.Proofs.Ytcpdelkamckmfaa.Frac
open Go.RowKit Go.Proofs.Ytcpdelkamckmfaa.E Go.Proofs.Ytcpdelkamckmfaa.Big

theorem two_pos (k : Nat) : (0 : Int) < 2 ^ k := Int.pow_pos (by decide)
theorem bit_at : ∀ (ds : List Int) (k : Nat), Dig ds → (h : k / 32 < ds.length) → dval ds / 2 ^ k % 2 = ds[k / 32] / 2 ^ (k % 32) % 2
  | [], k, _, h => by simp at h
  | x :: l, k, hD, h => by
    have hx := hD x (List.mem_cons_self ..)
    by_cases hk : k < 32
    · have e1 : k / 32 = 0 := by omega
      have e2 : k % 32 = k := by omega
      have e3 : (4294967296 : Int) = 2 ^ k * (2 * 2 ^ (31 - k)) := by
        rw [← Int.pow_succ', ← Int.pow_add, show k + (31 - k + 1) = 32 by omega]; rfl
      simp only [e1, e2, List.getElem_cons_zero, dval]
      rw [e3, Int.mul_assoc, Int.add_mul_ediv_left _ _ (by have := two_pos k; omega), Int.mul_assoc, Int.add_mul_emod_self_left]
    · obtain ⟨j, rfl⟩ : ∃ j, k = j + 32 := ⟨k - 32, by omega⟩
      have e1 : (j + 32) / 32 = j / 32 + 1 := by omega
      have e2 : (j + 32) % 32 = j % 32 := by omega
      have ih := bit_at l j (fun y hy => hD y (List.mem_cons_of_mem _ hy)) (by simp only [List.length_cons, e1] at h; omega)
      simp only [e1, e2, List.getElem_cons_succ, dval]
      rw [← ih, Nat.add_comm j 32, Int.pow_add, ← Int.ediv_ediv_of_nonneg (by decide)]
      congr 2
      rw [show (2 : Int) ^ 32 = 4294967296 from rfl]
      omega
theorem dval_lt2 : ∀ {ds : List Int}, Dig ds → dval ds < 2 ^ (32 * ds.length)
  | [], _ => by simp [dval]
  | x :: l, hD => by
    have hx := hD x (List.mem_cons_self ..)
    have ih := dval_lt2 (ds := l) (fun y hy => hD y (List.mem_cons_of_mem _ hy))
    rw [List.length_cons, Nat.mul_succ, Nat.add_comm, Int.pow_add, show (2 : Int) ^ 32 = 4294967296 from rfl, dval]
    omega
theorem bl_step {v : Int} {k : Nat} (h0 : 0 ≤ v) (h : v < 2 ^ (k + 1)) (hb : v / 2 ^ k % 2 = 0) : v < 2 ^ k := by
  have hp := two_pos k
  have h1 : v / 2 ^ k < 2 := by rw [Int.ediv_lt_iff_lt_mul hp]; rw [Int.pow_succ'] at h; exact h
  have h2 : 0 ≤ v / 2 ^ k := Int.ediv_nonneg h0 (by omega)
  have h3 : v / 2 ^ k = 0 := by omega
  have h4 := Int.mul_ediv_add_emod v (2 ^ k)
  have h5 := Int.emod_lt_of_pos v hp
  rw [h3, Int.mul_zero, Int.zero_add] at h4
  omega
theorem bl_end {v : Int} {k : Nat} (h0 : 0 ≤ v) (hb : ¬ v / 2 ^ k % 2 = 0) : (2 : Int) ^ k ≤ v := by
  have hp := two_pos k
  by_cases h : v < 2 ^ k
  · rw [Int.ediv_eq_zero_of_lt h0 h] at hb
    exact absurd rfl hb
  · omega
/-- How many bits. -/
def bl (v : Nat) : Nat := if v = 0 then 0 else v.log2 + 1
theorem bl_eq {v n : Nat} (h1 : (v : Int) < 2 ^ n) (h2 : n = 0 ∨ (2 : Int) ^ (n - 1) ≤ v) : bl v = n := by
  have c : ∀ k : Nat, ((2 ^ k : Nat) : Int) = 2 ^ k := fun k => by rw [Int.natCast_pow]; rfl
  unfold bl
  split
  · rename_i h
    subst h
    rcases h2 with h2 | h2
    · exact h2.symm
    · have := two_pos (n - 1); simp at h2; omega
  · rename_i h
    rcases h2 with h2 | h2
    · subst h2; simp at h1; omega
    · have a : v < 2 ^ n := by have := c n; omega
      have b : 2 ^ (n - 1) ≤ v := by have := c (n - 1); omega
      have n0 : n ≠ 0 := fun e => by subst e; simp at a; omega
      have a' := (Nat.log2_lt h).2 a
      have b' := (Nat.le_log2 h).2 b
      omega
theorem bl_lt {v k : Nat} (h : v < 2 ^ k) : bl v ≤ k := by
  unfold bl
  split
  · omega
  · rename_i h0
    have := (Nat.log2_lt h0).2 h
    omega
theorem u32_bit (x : Int) (h0 : 0 ≤ x) (h1 : x < 4294967296) {P : Program} (w : World) : (Op.intBits .and .u32 x 1).run P w = .ok (.int .u32 (x % 2)) w := by
  have e : bits .and .u32 x 1 = x % 2 := by
    rw [u32_and x 1 h0 (by omega) (by omega) (by omega), show (1 : Int).toNat = 1 from rfl, Nat.and_one_is_mod]
    omega
  simp only [Op.intBits]
  first | (rw [← e]; rfl) | simp [bits] at e ⊢

theorem shr_at {a : Int} {m : Nat} (h : 0 ≤ a ∧ a < 4294967296) (hm : m < 32) : a.fdiv (2 ^ (min (m : Int).toNat IntKind.u32.bits)) = a / 2 ^ m := by
  rw [Int.toNat_natCast, show min m IntKind.u32.bits = m from Nat.min_eq_left (by show m ≤ 32; omega)]
  exact Int.fdiv_eq_ediv_of_nonneg _ (by have := two_pos m; omega)
set_option maxRecDepth 100000 in
set_option maxHeartbeats 2000000 in
theorem bitlenB {w0 w : World} {T : List Res} {H D : List Nat} {l : List Ent} (hS : St w0 w (bag H D l :: T)) {b_x o_x : Nat} {x : Nm} {zx : Int} (mx : (⟨b_x, o_x, x⟩ : Ent) ∈ l) (hx : x.is zx) (lx : x.n ≤ 100000) :
    Calls Try.prog 112 #[.pointer (some ⟨b_x, o_x, none⟩)] w fun e w' => ∃ r : BG, True ∧ e = .returned (.int .i64 ((bl zx.natAbs : Nat) : Int)) ∧ St w0 w' (bag r.H r.D l :: T) := by
  have lx1 := hx.len
  refine calls_tr Try.func112 Try.ntmps112 rfl rfl hS ?_
  refine tr_seq ?_
  refine tr_region ?_
  refine tl_step rfl (oj_val (y_assign fe_c) ?_)
  refine tl_nil ?_
  refine tx_then ?_
  refine tr_seq ?_
  refine tr_region ?_
  refine tl_step rfl (oj_val (y_move (fe_t rfl)) ?_)
  refine tl_step rfl (oj_val (y_nilCheck (fe_t rfl)) ?_)
  refine tl_step rfl (oj_val (y_fieldAddr (td := 33) Try.underlying35 rfl rfl Try.sizeOf33 (o' := o_x + 1) rfl (fe_t rfl)) ?_)
  refine tl_step rfl (oj_val (y_ldN2 0 Try.isAgg33 (fe_t rfl) rfl mx) ?_)
  refine tl_step rfl (oj_val (y_len Try.underlying33 (fe_t rfl)) ?_)
  refine tl_step rfl (oj_val (y_as (b := ((32 * x.n : Nat) : Int)) (y_mul (fe_t rfl) fe_c (by omega)) (by omega)) ?_)
  refine tl_step rfl (oj_val (y_assign (fe_t rfl)) ?_)
  refine tl_nil ?_
  refine tx_then ?_
  refine tr_seq ?_
  refine tr_block ?_
  refine tr_loop1 [3, 10, 11, 12, 13, 14, 15, 16, 17, 18, 19, 20, 21, 22, 23, 24, 25, 26, 27, 28, 29, 30] (fun (n : Nat) => [(3, .int .i64 (n : Int))]) 0 (fun (n : Nat) => []) (fun (n : Nat) => n ≤ 32 * x.n ∧ dval x.ds < 2 ^ n) (fun (n : Nat) => n) (32 * x.n) (cov_cons (by first | rfl | exact v_int (by omega) | exact v_bool (by simp [*])) (cov_nil)) (fun w h => h) ?_ ?_
  · try dsimp only
    exact ⟨Nat.le_refl _, by rw [← hx.len]; exact dval_lt2 hx.dig⟩
  intro n hp
  obtain ⟨hn, hv⟩ := hp
  refine tr_seq ?_
  refine tr_seq ?_
  refine tr_region ?_
  refine tl_step rfl (oj_val (y_move (fe_t rfl)) ?_)
  refine tl_step rfl (oj_val (y_gtr (fe_t rfl) fe_c) ?_)
  refine tl_step rfl (oj_val (y_move (fe_t rfl)) ?_)
  refine tl_splitp (d := 12) rfl (fun hq1 => ?_) (fun hq2 => ?_)
  · have hdg := hx.dig.get (k := (n - 1) / 32) (by omega)
    have hpw := two_pos ((n - 1) % 32)
    have hd0 : 0 ≤ x.ds[(n - 1) / 32]'(by omega) / 2 ^ ((n - 1) % 32) := Int.ediv_nonneg (by omega) (by omega)
    have hd1 : x.ds[(n - 1) / 32]'(by omega) / 2 ^ ((n - 1) % 32) ≤ x.ds[(n - 1) / 32]'(by omega) := Int.ediv_le_self _ (by omega)
    have hba := bit_at x.ds (n - 1) hx.dig (by omega)
    refine tl_want rfl rfl rfl (oj_val (y_move (fe_t rfl)) ?_)
    refine tl_want rfl rfl rfl (oj_val (y_nilCheck (fe_t rfl)) ?_)
    refine tl_want rfl rfl rfl (oj_val (y_fieldAddr (td := 33) Try.underlying35 rfl rfl Try.sizeOf33 (o' := o_x + 1) rfl (fe_t rfl)) ?_)
    refine tl_want rfl rfl rfl (oj_val (y_ldN2 0 Try.isAgg33 (fe_t rfl) rfl mx) ?_)
    refine tl_want rfl rfl rfl (oj_val (y_move (fe_t rfl)) ?_)
    refine tl_want rfl rfl rfl (oj_val (y_dec (fe_t rfl) fe_c (by omega)) ?_)
    refine tl_want rfl rfl rfl (oj_val (y_as (b := (((n - 1) / 32 : Nat) : Int)) (y_quo (fe_t rfl) fe_c (by omega)) (by omega)) ?_)
    refine tl_want rfl rfl rfl (oj_val (y_index Try.underlying33 Try.sizeOf153 (fe_t rfl) (fe_t rfl) (rdl_bag 0 rfl mx) (by rw [cU_len, hx.len, Nat.mul_one]) (by decide) (by omega) (Nat.mul_one _)) ?_)
    refine tl_want rfl rfl rfl (oj_val (y_ld (v := .int .u32 (x.ds[(n - 1) / 32]'(by omega))) Try.isAgg153 (fe_t rfl) (rdl_bag 0 rfl mx) (cU_get (by omega))) ?_)
    refine tl_want rfl rfl rfl (oj_val (y_move (fe_t rfl)) ?_)
    refine tl_want rfl rfl rfl (oj_val (y_dec (fe_t rfl) fe_c (by omega)) ?_)
    refine tl_want rfl rfl rfl (oj_val (y_as (b := (((n - 1) % 32 : Nat) : Int)) (y_rem (fe_t rfl) fe_c (by omega)) (by omega)) ?_)
    refine tl_want rfl rfl rfl (oj_val (y_as (b := x.ds[(n - 1) / 32]'(by omega) / 2 ^ ((n - 1) % 32)) (y_shr (fe_t rfl) (fe_t rfl) (by omega)) (shr_at hdg (by omega))) ?_)
    refine tl_want rfl rfl rfl (oj_val (y_bits (.inl rfl) (fe_t rfl) fe_c (fun w => u32_bit _ (by omega) (by omega) w)) ?_)
    refine tl_want rfl rfl rfl (oj_val (y_eq (fe_t rfl) fe_c) ?_)
    refine tl_step rfl (oj_val (y_pickt (fe_t rfl) (fe_t rfl)) ?_)
    refine tl_nil ?_
    refine tx_then ?_
    refine tr_condp (fe_t rfl) (fun hq3 => ?_) (fun hq4 => ?_)
    · refine tr_skip ?_
      refine tx_then ?_
      refine tr_block ?_
      refine tr_region ?_
      refine tl_step rfl (oj_val (y_move (fe_t rfl)) ?_)
      refine tl_step rfl (oj_val (y_dec (fe_t rfl) fe_c (by omega)) ?_)
      refine tl_step rfl (oj_val (y_assign (fe_t rfl)) ?_)
      refine tl_nil ?_
      refine tx_in ?_
      apply tx_back1 (n - 1)
      · exact (cov_cons (by first | rfl | exact v_int (by omega) | exact v_bool (by simp [*])) (cov_nil))
      · repeat (first | exact over_nil | refine over_put rfl ?_ | refine over_drop rfl ?_)
      · exact fun w h => h
      · exact ⟨⟨by omega, bl_step (dval_nonneg hx.dig) (by rwa [show n - 1 + 1 = n by omega]) (by rw [hba]; assumption)⟩, by omega⟩
    · refine tr_exit ?_
      refine tx_then_exit ?_
      refine tx_then_exit ?_
      refine tx_in_exit ?_
      refine tx_then ?_
      refine tr_seq ?_
      refine tr_region ?_
      refine tl_step rfl (oj_val (y_move (fe_t rfl)) ?_)
      refine tl_step rfl (oj_val (y_assign (fe_t rfl)) ?_)
      refine tl_nil ?_
      refine tx_then ?_
      refine tr_ret ?_
      refine tx_ret (res1 Try.results112 (rok_t rfl)) (fun w' hS => ?_)
      have he : bl zx.natAbs = n := bl_eq (by rw [← nm_abs hx]; exact hv) (by rw [← nm_abs hx]; first | exact .inl (by omega) | exact .inr (bl_end (dval_nonneg hx.dig) (by rw [hba]; assumption)))
      have hS' : St w0 w' (bag _ _ (l) :: T) := hS
      exact finG hS' (by rw [he])
  · refine tl_skip rfl rfl rfl rfl ?_
    refine tl_skip rfl rfl rfl rfl ?_
    refine tl_skip rfl rfl rfl rfl ?_
    refine tl_skip rfl rfl rfl rfl ?_
    refine tl_skip rfl rfl rfl rfl ?_
    refine tl_skip rfl rfl rfl rfl ?_
    refine tl_skip rfl rfl rfl rfl ?_
    refine tl_skip rfl rfl rfl rfl ?_
    refine tl_skip rfl rfl rfl rfl ?_
    refine tl_skip rfl rfl rfl rfl ?_
    refine tl_skip rfl rfl rfl rfl ?_
    refine tl_skip rfl rfl rfl rfl ?_
    refine tl_skip rfl rfl rfl rfl ?_
    refine tl_skip rfl rfl rfl rfl ?_
    refine tl_skip rfl rfl rfl rfl ?_
    refine tl_step rfl (oj_val (y_pickf (fe_t rfl) fe_c) ?_)
    refine tl_nil ?_
    refine tx_then ?_
    refine tr_condf (fe_t rfl) ?_
    refine tr_exit ?_
    refine tx_then_exit ?_
    refine tx_then_exit ?_
    refine tx_in_exit ?_
    refine tx_then ?_
    refine tr_seq ?_
    refine tr_region ?_
    refine tl_step rfl (oj_val (y_move (fe_t rfl)) ?_)
    refine tl_step rfl (oj_val (y_assign (fe_t rfl)) ?_)
    refine tl_nil ?_
    refine tx_then ?_
    refine tr_ret ?_
    refine tx_ret (res1 Try.results112 (rok_t rfl)) (fun w' hS => ?_)
    have he : bl zx.natAbs = n := bl_eq (by rw [← nm_abs hx]; exact hv) (by rw [← nm_abs hx]; first | exact .inl (by omega) | exact .inr (bl_end (dval_nonneg hx.dig) (by rw [hba]; assumption)))
    have hS' : St w0 w' (bag _ _ (l) :: T) := hS
    exact finG hS' (by rw [he])

set_option maxRecDepth 100000 in
set_option maxHeartbeats 1000000 in
theorem isint64B {w0 w : World} {T : List Res} {H D : List Nat} {l : List Ent} (hS : St w0 w (bag H D l :: T)) {b_x o_x : Nat} {x : Nm} {zx : Int} (mx : (⟨b_x, o_x, x⟩ : Ent) ∈ l) (hx : x.is zx) (g0 : -9223372036854775808 < zx) (g1 : zx < 9223372036854775808) :
    Calls Try.prog 105 #[.pointer (some ⟨b_x, o_x, none⟩)] w fun e w' => ∃ r : BG, True ∧ e = .returned (.bool true) ∧ St w0 w' (bag r.H r.D l :: T) := by
  have lx := nm_sm hx (sm_of (by omega) (by omega))
  have hb := bl_lt (v := zx.natAbs) (k := 63) (by omega)
  refine calls_tr Try.func105 Try.ntmps105 rfl rfl hS ?_
  refine tr_seq ?_
  refine tr_region ?_
  refine tl_step rfl (oj_val (y_assign fe_c) ?_)
  refine tl_nil ?_
  refine tx_then ?_
  refine tr_seq ?_
  refine tr_seq ?_
  refine tr_region ?_
  refine tl_step rfl (oj_val (y_move (fe_t rfl)) ?_)
  refine tl_step rfl (oj_call2 Try.call112 fe_f (fel_cons (fe_t rfl) fel_nil) (fun w' hS => lift 0 hS rfl (fun T hS => bitlenB hS mx hx (by omega))) (fun r1 _ => ?_))
  refine tl_step rfl (oj_val (y_lss (fe_t rfl) fe_c) ?_)
  refine tl_nil ?_
  refine tx_then ?_
  refine tr_condp (fe_t rfl) (fun hq1 => ?_) (fun hq2 => ?_)
  · refine tr_seq ?_
    refine tr_region ?_
    refine tl_step rfl (oj_val (y_assign fe_c) ?_)
    refine tl_nil ?_
    refine tx_then ?_
    refine tr_ret ?_
    refine tx_then_ret ?_
    refine tx_ret (res1 Try.results105 (rok_t rfl)) (fun w' hS => ?_)
    have hS' : St w0 w' (bag _ _ (l) :: T) := hS
    exact finG hS' (rfl)
  · exfalso; omega

end Go.Proofs.Ytcpdelkamckmfaa.Frac
