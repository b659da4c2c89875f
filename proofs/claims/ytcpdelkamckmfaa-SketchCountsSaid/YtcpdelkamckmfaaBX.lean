/- Shifts to the left, single bits. -/
import Derived.Test.YtcpdelkamckmfaaFrC
namespace Go.Proofs.Ytcpdelkamckmfaa.Frac
open Go.RowKit Go.Proofs.Ytcpdelkamckmfaa.E Go.Proofs.Ytcpdelkamckmfaa.Big

theorem pw_two : ∀ k : Nat, pw k = 2 ^ (32 * k)
  | 0 => rfl
  | k + 1 => by rw [pw_succ, pw_two k, Nat.mul_succ, Int.pow_add, Int.mul_comm]; rfl
/-- A shift to the left, as far as digit k. -/
def ShInv (x zs : List Int) (n k : Nat) : Prop :=
  zs.length = x.length + n / 32 + 1 ∧ Dig zs ∧ (∀ j, k + n / 32 + 1 ≤ j → ∀ hj : j < zs.length, zs[j] = 0) ∧ (∀ hj : k + n / 32 < zs.length, zs[k + n / 32] < 2 ^ (n % 32)) ∧ dval zs = dval (x.take k) * 2 ^ n
theorem sh_start (x : List Int) (n : Nat) : ShInv x (List.replicate (x.length + n / 32 + 1) 0) n 0 :=
  ⟨by simp, Dig.zeros _, fun j _ hj => by simp, fun hj => by simp; exact two_pos _, by simp [dval_zeros, dval]⟩
theorem two_mono {a b : Nat} (h : a ≤ b) : (2 : Int) ^ a ≤ 2 ^ b := by
  have := Nat.pow_le_pow_right (n := 2) (by decide) h
  have c : ∀ k : Nat, ((2 ^ k : Nat) : Int) = 2 ^ k := fun k => by rw [Int.natCast_pow]; rfl
  rw [← c, ← c]
  omega
theorem two_le {m : Nat} (h : m < 32) : (2 : Int) ^ m ≤ 2147483648 := by
  have h2 : (2 : Int) ^ m ≤ 2 ^ 31 := two_mono (by omega)
  exact h2
theorem or_add {a lo : Int} {m : Nat} (h0 : 0 ≤ a) (h1 : a < 2 ^ m) (hm : m < 32) (l0 : 0 ≤ lo) (l1 : lo < 4294967296) (hd : lo % 2 ^ m = 0) : bits .or .u32 a lo = a + lo ∧ a + lo < 4294967296 := by
  obtain ⟨p, rfl⟩ := Int.eq_ofNat_of_zero_le h0
  obtain ⟨q, rfl⟩ := Int.eq_ofNat_of_zero_le l0
  have e2 : ((2 ^ m : Nat) : Int) = 2 ^ m := by rw [Int.natCast_pow]; rfl
  have h1' : p < 2 ^ m := by omega
  have hq : q % 2 ^ m = 0 := by rw [← e2, ← Int.natCast_emod] at hd; omega
  have hle : 2 ^ m ≤ 2147483648 := by have := two_le hm; omega
  obtain ⟨c, hc⟩ : ∃ c, q = 2 ^ m * c := ⟨q / 2 ^ m, by have := Nat.div_add_mod q (2 ^ m); omega⟩
  have ho : p ||| q = p + q := by
    rw [hc, Nat.mul_comm, ← Nat.shiftLeft_eq, Nat.or_comm, ← Nat.shiftLeft_add_eq_or_of_lt h1', Nat.add_comm]
  have hlt : p + q < 4294967296 := by
    have h3 : 2 ^ m ∣ 4294967296 := by rw [show 4294967296 = 2 ^ 32 from rfl]; exact Nat.pow_dvd_pow 2 (by omega)
    obtain ⟨t, ht⟩ := h3
    have h4 : c < t := by
      have : 2 ^ m * c < 2 ^ m * t := by omega
      exact Nat.lt_of_mul_lt_mul_left this
    have h5 : 2 ^ m * (c + 1) ≤ 2 ^ m * t := Nat.mul_le_mul_left _ h4
    rw [Nat.mul_succ, ← hc, ← ht] at h5
    omega
  refine ⟨?_, by omega⟩
  rw [u32_or _ _ (by omega) (by omega) (by omega) (by omega), Int.toNat_natCast, Int.toNat_natCast, ho]
  omega
theorem sh_step {x zs : List Int} {n k : Nat} (h : ShInv x zs n k) (hx : Dig x) (hk : k < x.length) {v : Int} (hv : v = x[k] * 2 ^ (n % 32)) :
    0 ≤ v ∧ v < 18446744073709551616 ∧ ∃ h1 : k + n / 32 + 1 < zs.length, bits .or .u32 (zs[k + n / 32]'(by omega)) (v % 4294967296) = zs[k + n / 32]'(by omega) + v % 4294967296 ∧ 0 ≤ zs[k + n / 32]'(by omega) + v % 4294967296 ∧ zs[k + n / 32]'(by omega) + v % 4294967296 < 4294967296 ∧
      ShInv x ((zs.set (k + n / 32) (zs[k + n / 32]'(by omega) + v % 4294967296)).set (k + n / 32 + 1) (v / 4294967296)) n (k + 1) := by
  obtain ⟨h1, h2, h3, h4, h5⟩ := h
  have hm : n % 32 < 32 := Nat.mod_lt _ (by decide)
  have xk := hx.get hk
  have p0 := two_pos (n % 32)
  have p1 := two_le hm
  have v0 : 0 ≤ v := by rw [hv]; exact Int.mul_nonneg xk.1 (by omega)
  have v1 : v < 4294967296 * 2 ^ (n % 32) := by rw [hv]; exact Int.mul_lt_mul_of_pos_right xk.2 p0
  have hl : k + n / 32 + 1 < zs.length := by omega
  have hz := h2.get (k := k + n / 32) (by omega)
  have hzm := h4 (by omega)
  have hd : v % 4294967296 % 2 ^ (n % 32) = 0 := by
    have e : (4294967296 : Int) = 2 ^ (n % 32) * 2 ^ (32 - n % 32) := by rw [← Int.pow_add, show n % 32 + (32 - n % 32) = 32 by omega]; rfl
    rw [e, Int.emod_emod_of_dvd _ (Int.dvd_mul_right _ _), hv, Int.mul_emod_left]
  have ho := or_add hz.1 hzm hm (Int.emod_nonneg v (by decide)) (Int.emod_lt_of_pos v (by decide)) hd
  have q1 : 0 ≤ v % 4294967296 := Int.emod_nonneg v (by decide)
  have q2 : v / 4294967296 < 2 ^ (n % 32) := by rw [Int.ediv_lt_iff_lt_mul (by decide), Int.mul_comm]; exact v1
  have q3 : 0 ≤ v / 4294967296 := Int.ediv_nonneg v0 (by decide)
  refine ⟨v0, by omega, hl, ho.1, by omega, ho.2, by simpa using h1, (h2.set _ ⟨by omega, ho.2⟩).set _ ⟨q3, by omega⟩, fun j hj hj' => ?_, fun hj => ?_, ?_⟩
  · rw [List.getElem_set_ne (by omega), List.getElem_set_ne (by omega)]
    exact h3 j (by omega) _
  · simp only [show k + 1 + n / 32 = k + n / 32 + 1 by omega, List.getElem_set_self]
    exact q2
  · have z0 : zs[k + n / 32 + 1] = 0 := h3 _ (Nat.le_refl _) _
    rw [dval_set (by simpa using hl), dval_set (by omega), List.getElem_set_ne (by omega), z0, h5, dval_take_succ hk, pw_succ]
    have e1 : v % 4294967296 + 4294967296 * (v / 4294967296) = v := by omega
    have e2 : pw (k + n / 32) * 2 ^ (n % 32) = pw k * 2 ^ n := by
      rw [pw_two, pw_two, ← Int.pow_add, ← Int.pow_add]
      congr 1
      omega
    generalize pw (k + n / 32) = A at *
    generalize v % 4294967296 = lo at *
    generalize v / 4294967296 = hi at *
    rw [show dval (x.take k) * 2 ^ n + A * (zs[k + n / 32]'(by omega) + lo - zs[k + n / 32]'(by omega)) + 4294967296 * A * (hi - 0) = dval (x.take k) * 2 ^ n + A * (lo + 4294967296 * hi) by grind, e1, hv, Int.add_mul]
    rw [← Int.mul_assoc, Int.mul_comm A, Int.mul_assoc, e2, Int.mul_comm (pw k * x[k]), ← Int.mul_assoc, ← Int.mul_assoc, Int.mul_comm x[k], Int.mul_comm (2 ^ n * pw k) , Int.mul_comm (2 ^ n)]
    grind
theorem sh_end {x zs : List Int} {n k : Nat} (h : ShInv x zs n k) (hk : x.length ≤ k) : dval zs = dval x * 2 ^ n := by
  rw [h.2.2.2.2, List.take_of_length_le hk]
theorem shl_at {a : Int} {m : Nat} (h : 0 ≤ a ∧ a < 4294967296) (hm : m < 32) : IntKind.u64.wrap (a * 2 ^ (min (m : Int).toNat IntKind.u64.bits)) = a * 2 ^ m := by
  rw [Int.toNat_natCast, show min m IntKind.u64.bits = m from Nat.min_eq_left (by show m ≤ 64; omega)]
  have p0 := two_pos m
  have p1 := two_le hm
  have h0 : 0 ≤ a * 2 ^ m := Int.mul_nonneg h.1 (by omega)
  have h1 : a * 2 ^ m ≤ 4294967295 * 2147483648 := Int.mul_le_mul (by omega) p1 (by omega) (by omega)
  exact IntWalk.u64_in _ (by omega)
theorem u32_orw (a b r : Int) (h : bits .or .u32 a b = r) {P : Program} (w : World) : (Op.intBits .or .u32 a b).run P w = .ok (.int .u32 r) w := by
  simp only [Op.intBits]
  first | (rw [← h]; rfl) | simp [bits] at h ⊢

set_option maxRecDepth 100000 in
set_option maxHeartbeats 2000000 in
theorem shlE (A : Option Addr) (c s : Nat) (x : List Int) (w : World) (hr : Rd w A (cU x)) (hx : Dig x) (n : Nat) (hn : x.length = n) (lx : n ≤ 100000) (ls : s ≤ 1000) :
    Calls Try.prog 168 #[.slice A n c, .int .i64 (s : Int)] w fun e w' => ∃ p : Nm, (p.ds.length = p.n ∧ p.n ≤ p.c ∧ p.n ≤ 200000 ∧ Dig p.ds ∧ dval p.ds =  dval x * 2 ^ s) ∧ e = .returned (.slice p.A p.n p.c) ∧ St w w' [p.d] := by
  refine calls_tr Try.func168 Try.ntmps168 rfl rfl (St.refl _) ?_
  refine tr_seq ?_
  refine tr_region ?_
  refine tl_step rfl (oj_val (y_assign fe_c) ?_)
  refine tl_nil ?_
  refine tx_then ?_
  refine tr_seq ?_
  refine tr_region ?_
  refine tl_step rfl (oj_val (y_move (fe_t rfl)) ?_)
  refine tl_step rfl (oj_val (y_len Try.underlying33 (fe_t rfl)) ?_)
  refine tl_step rfl (oj_val (y_move (fe_t rfl)) ?_)
  refine tl_step rfl (oj_val (y_as (b := ((s / 32 : Nat) : Int)) (y_quo (fe_t rfl) fe_c (by omega)) (by omega)) ?_)
  refine tl_step rfl (oj_val (y_as (b := ((n + s / 32 : Nat) : Int)) (y_add (fe_t rfl) (fe_t rfl) (by omega)) (by omega)) ?_)
  refine tl_step rfl (oj_val (y_as (b := ((n + s / 32 + 1 : Nat) : Int)) (y_add (fe_t rfl) fe_c (by omega)) (by omega)) ?_)
  refine tl_step rfl (oj_make (n := n + s / 32 + 1) (z := (.int .u32 0)) (bytes := 4) Try.underlying33 (by kernel_rfl) (fe_t rfl) (fe_t rfl) rfl ⟨by omega, by decide⟩ (fun g => ?_))
  refine tl_step rfl (oj_val (y_assign (fe_t rfl)) ?_)
  refine tl_nil ?_
  refine tx_then ?_
  refine tr_seq ?_
  refine tr_seq ?_
  refine tr_region ?_
  refine tl_step rfl (oj_val (y_move (fe_t rfl)) ?_)
  refine tl_step rfl (oj_val (y_len Try.underlying33 (fe_t rfl)) ?_)
  refine tl_step rfl (oj_val (y_move fe_c) ?_)
  refine tl_nil ?_
  refine tx_then ?_
  refine tr_block ?_
  refine tr_loop3 [6, 7, 8, 18, 19, 20, 21, 22, 23, 24, 25, 26, 27, 28, 29, 30, 31, 32, 33, 34, 35, 36, 37, 38, 39, 40, 41, 42, 43, 44, 45, 46, 47, 48, 49] (fun (k : Nat) (zs : List Int) (vx : List Value) => [(18, .int .i64 (k : Int))]) 0 (fun (k : Nat) (zs : List Int) (vx : List Value) => [(0, vec 153 1 (.slice (some ⟨g, 0, none⟩) (n + s / 32 + 1) (n + s / 32 + 1)) (n + s / 32 + 1) vx)]) (fun (k : Nat) (zs : List Int) (vx : List Value) => k ≤ n ∧ vx = cU zs ∧ ShInv x zs s k) (fun (k : Nat) (zs : List Int) (vx : List Value) => n - k) (0) (List.replicate (x.length + s / 32 + 1) 0) (List.replicate (n + s / 32 + 1) (.int .u32 0)) (cov_cons (by first | rfl | exact v_int (by omega) | exact v_bool (by simp [*])) (cov_nil)) (fun w h => h) ?_ ?_
  · try dsimp only
    exact ⟨by omega, by simp [cU]; omega, sh_start _ _⟩
  intro k zs vx hp
  obtain ⟨hk, hvx, hinv⟩ := hp
  have hzl := hinv.1
  refine tr_seq ?_
  refine tr_region ?_
  refine tl_step rfl (oj_val (y_lss (fe_t rfl) (fe_t rfl)) ?_)
  refine tl_nil ?_
  refine tx_then ?_
  refine tr_seq ?_
  refine tr_condp (fe_t rfl) (fun hq1 => ?_) (fun hq2 => ?_)
  · refine tr_skip ?_
    refine tx_then ?_
    refine tr_seq ?_
    refine tr_block ?_
    refine tr_seq ?_
    refine tr_region ?_
    refine tl_step rfl (oj_val (y_move (fe_t rfl)) ?_)
    refine tl_step rfl (oj_val (y_index Try.underlying33 Try.sizeOf153 (fe_t rfl) (fe_t rfl) (rdl_out hr) (by rw [cU_len]; omega) (by decide) (by omega) (Nat.mul_one _)) ?_)
    refine tl_step rfl (oj_val (y_ld (v := .int .u32 (x[k]'(by omega))) Try.isAgg153 (fe_t rfl) (rdl_out hr) (cU_get (by omega))) ?_)
    refine tl_step rfl (oj_val (y_assign (fe_t rfl)) ?_)
    refine tl_step rfl (oj_val (y_assign (fe_t rfl)) ?_)
    refine tl_nil ?_
    refine tx_then ?_
    refine tr_seq ?_
    have hxi := hx.get (k := k) (by omega)
    obtain ⟨s0, s1, hl, ho, o0, o1, hnx⟩ := sh_step hinv hx (k := k) (by omega) rfl
    refine tr_region ?_
    refine tl_step rfl (oj_val (y_move (fe_t rfl)) ?_)
    refine tl_step rfl (oj_val (y_convi Try.underlying153 Try.underlying41 (fe_t rfl) (IntWalk.u64_in _ (by omega))) ?_)
    refine tl_step rfl (oj_val (y_move (fe_t rfl)) ?_)
    refine tl_step rfl (oj_val (y_as (b := ((s % 32 : Nat) : Int)) (y_rem (fe_t rfl) fe_c (by omega)) (by omega)) ?_)
    refine tl_step rfl (oj_val (y_as (y_shl (fe_t rfl) (fe_t rfl) (by omega)) (shl_at hxi (by omega))) ?_)
    refine tl_step rfl (oj_val (y_assign (fe_t rfl)) ?_)
    refine tl_nil ?_
    refine tx_then ?_
    refine tr_seq ?_
    refine tr_region ?_
    refine tl_step rfl (oj_val (y_move (fe_t rfl)) ?_)
    refine tl_step rfl (oj_val (y_move (fe_t rfl)) ?_)
    refine tl_step rfl (oj_val (y_move (fe_t rfl)) ?_)
    refine tl_step rfl (oj_val (y_as (b := ((s / 32 : Nat) : Int)) (y_quo (fe_t rfl) fe_c (by omega)) (by omega)) ?_)
    refine tl_step rfl (oj_val (y_as (b := ((k + s / 32 : Nat) : Int)) (y_add (fe_t rfl) (fe_t rfl) (by omega)) (by omega)) ?_)
    refine tl_step rfl (oj_val (y_index Try.underlying33 Try.sizeOf153 (fe_t rfl) (fe_t rfl) (rdl_vec 0 rfl) (by first | (rw [hvx, cU_len]; omega) | (rw [hvx, List.length_set, cU_len]; omega)) (by decide) (by omega) (Nat.mul_one _)) ?_)
    refine tl_step rfl (oj_val (y_ld (v := .int .u32 (zs[k + s / 32]'(by omega))) Try.isAgg153 (fe_t rfl) (rdl_vec 0 rfl) (by rw [hvx]; exact cU_get (by omega))) ?_)
    refine tl_step rfl (oj_val (y_move (fe_t rfl)) ?_)
    refine tl_step rfl (oj_val (y_as (y_conv Try.underlying41 Try.underlying153 (fe_t rfl)) (wrap_lo _)) ?_)
    refine tl_step rfl (oj_val (y_bits (.inr (.inl rfl)) (fe_t rfl) (fe_t rfl) (fun w => u32_orw _ _ _ ho w)) ?_)
    refine tl_step rfl (oj_val (y_index Try.underlying33 Try.sizeOf153 (fe_t rfl) (fe_t rfl) (rdl_vec 0 rfl) (by first | (rw [hvx, cU_len]; omega) | (rw [hvx, List.length_set, cU_len]; omega)) (by decide) (by omega) (Nat.mul_one _)) ?_)
    refine tl_step rfl (oj_storeE1 (i := 0) Try.sizeOf153 (fe_t rfl) (fe_t rfl) rfl rfl rfl (by omega) (?_))
    refine tl_nil ?_
    refine tx_then ?_
    refine tr_region ?_
    refine tl_step rfl (oj_val (y_move (fe_t rfl)) ?_)
    refine tl_step rfl (oj_val (y_move (fe_t rfl)) ?_)
    refine tl_step rfl (oj_val (y_move (fe_t rfl)) ?_)
    refine tl_step rfl (oj_val (y_as (b := ((s / 32 : Nat) : Int)) (y_quo (fe_t rfl) fe_c (by omega)) (by omega)) ?_)
    refine tl_step rfl (oj_val (y_as (b := ((k + s / 32 : Nat) : Int)) (y_add (fe_t rfl) (fe_t rfl) (by omega)) (by omega)) ?_)
    refine tl_step rfl (oj_val (y_as (b := ((k + s / 32 + 1 : Nat) : Int)) (y_add (fe_t rfl) fe_c (by omega)) (by omega)) ?_)
    refine tl_step rfl (oj_val (y_move (fe_t rfl)) ?_)
    refine tl_step rfl (oj_val (y_as (y_shr (fe_t rfl) fe_c (by decide)) (shr32 s0)) ?_)
    refine tl_step rfl (oj_val (y_convi Try.underlying41 Try.underlying153 (fe_t rfl) (IntWalk.u32_in _ (by omega))) ?_)
    refine tl_step rfl (oj_val (y_index Try.underlying33 Try.sizeOf153 (fe_t rfl) (fe_t rfl) (rdl_vec 0 rfl) (by first | (rw [hvx, cU_len]; omega) | (rw [hvx, List.length_set, cU_len]; omega)) (by decide) (by omega) (Nat.mul_one _)) ?_)
    refine tl_step rfl (oj_storeE1 (i := 0) Try.sizeOf153 (fe_t rfl) (fe_t rfl) rfl rfl rfl (by omega) (?_))
    refine tl_nil ?_
    refine tx_in ?_
    refine tx_then ?_
    refine tr_region ?_
    refine tl_step rfl (oj_val (y_inc (fe_t rfl) fe_c (by omega)) ?_)
    refine tl_step rfl (oj_val (y_move (fe_t rfl)) ?_)
    refine tl_nil ?_
    apply tx_back3 (k + 1) (((zs.set (k + s / 32) (zs[k + s / 32]'(by omega) + (x[k]'(by omega) * 2 ^ (s % 32)) % 4294967296)).set (k + s / 32 + 1) ((x[k]'(by omega) * 2 ^ (s % 32)) / 4294967296))) (_)
    · exact (cov_cons (by first | rfl | exact v_int (by omega) | exact v_bool (by simp [*])) (cov_nil))
    · repeat (first | exact over_nil | refine over_put rfl ?_ | refine over_drop rfl ?_)
    · exact fun w h => h.pick [0] _ rfl (by decide)
    · exact ⟨⟨by omega, by rw [hvx, cU, cU, List.map_set, List.map_set], hnx⟩, by omega⟩
  · refine tr_exit ?_
    refine tx_then_exit ?_
    refine tx_then_exit ?_
    refine tx_in_exit ?_
    refine tx_then ?_
    refine tr_seq ?_
    refine tr_region ?_
    refine tl_step rfl (oj_val (y_move (fe_t rfl)) ?_)
    refine tl_step rfl (oj_val (y_assign (fe_t rfl)) ?_)
    refine tl_nil ?_
    refine tx_then ?_
    refine tr_ret ?_
    refine tx_ret (res1 Try.results168 (rok_t rfl)) (fun w' hS => ?_)
    have hd := sh_end hinv (by omega)
    rw [hvx] at hS
    exact ⟨⟨false, some ⟨g, 0, none⟩, n + s / 32 + 1, n + s / 32 + 1, zs⟩, ⟨by dsimp only; omega, Nat.le_refl _, by dsimp only; omega, hinv.2.1, hd⟩, rfl, hS.pick [0] _ rfl (by decide)⟩

set_option maxRecDepth 100000 in
set_option maxHeartbeats 2000000 in
theorem lshB {w0 w : World} {T : List Res} {H D : List Nat} {l : List Ent} {b o : Nat} {q : Nm} (hS : St w0 w (bag H D (⟨b, o, q⟩ :: l) :: T)) {b_x o_x : Nat} {x : Nm} {zx : Int} (mx : (⟨b_x, o_x, x⟩ : Ent) ∈ (⟨b, o, q⟩ : Ent) :: l) (hx : x.is zx) (lx : x.n ≤ 100000) (s : Nat) (ls : s ≤ 1000) :
    Calls Try.prog 118 #[.pointer (some ⟨b, o, none⟩), .pointer (some ⟨b_x, o_x, none⟩), .int .u64 (s : Int)] w fun e w' => ∃ r : B1, r.q.is (zx * 2 ^ s) ∧ e = .returned (.pointer (some ⟨b, o, none⟩)) ∧ St w0 w' (bag r.H r.D (⟨b, o, r.q⟩ :: l) :: T) := by
  refine calls_tr Try.func118 Try.ntmps118 rfl rfl hS ?_
  refine tr_seq ?_
  refine tr_region ?_
  refine tl_step rfl (oj_val (y_assign fe_c) ?_)
  refine tl_nil ?_
  refine tx_then ?_
  refine tr_seq ?_
  refine tb_draw 15 (sel _ []) (fun w h => h.sel _ rfl (by decide)) rfl ?_
  refine tb_float (i := 0) rfl (by kernel_rfl) rfl (wants_none rfl) (yq_of (y_move (fe_t rfl))) ?_
  refine tb_float (i := 1) rfl (by kernel_rfl) rfl (wants_none rfl) (yq_of (y_move (fe_t rfl))) ?_
  refine tb_float (i := 2) rfl (by kernel_rfl) rfl (wants_none rfl) (yq_of (y_move (fe_t rfl))) ?_
  refine tb_float (i := 3) rfl (by kernel_rfl) rfl (wants_none rfl) (yq_of (y_nilCheck (fe_t rfl))) ?_
  refine tb_float (i := 4) rfl (by kernel_rfl) rfl (wants_none rfl) (yq_of (y_fieldAddr (td := 4) Try.underlying35 rfl rfl Try.sizeOf4 (o' := o_x) rfl (fe_t rfl))) ?_
  refine tb_float1 (i := 5) rfl (by kernel_rfl) (by kernel_rfl) rfl (wants_none rfl) (yq_of (y_ldN1 0 Try.isAgg4 (fe_t rfl) rfl mx)) ?_
  refine tb_float (i := 6) rfl (by kernel_rfl) rfl (wants_none rfl) (yq_of (y_move (fe_t rfl))) ?_
  refine tb_float (i := 7) rfl (by kernel_rfl) rfl (wants_none rfl) (yq_of (y_nilCheck (fe_t rfl))) ?_
  refine tb_float (i := 8) rfl (by kernel_rfl) rfl (wants_none rfl) (yq_of (y_fieldAddr (td := 33) Try.underlying35 rfl rfl Try.sizeOf33 (o' := o_x + 1) rfl (fe_t rfl))) ?_
  refine tb_float1 (i := 9) rfl (by kernel_rfl) (by kernel_rfl) rfl (wants_none rfl) (yq_of (y_ldN2 0 Try.isAgg33 (fe_t rfl) rfl mx)) ?_
  refine tb_float (i := 10) rfl (by kernel_rfl) rfl (wants_none rfl) (yq_of (y_move (fe_t rfl))) ?_
  refine tb_float (i := 11) rfl (by kernel_rfl) rfl (wants_none rfl) (yq_of (y_convi Try.underlying152 Try.underlying3 (fe_t rfl) (IntWalk.i64_in _ (by omega)))) ?_
  refine tb_one1 (i := 12) rfl (by kernel_rfl) (by kernel_rfl) (wants_none rfl) (oj_call Try.call168 fe_f (fel_cons (fe_t rfl) (fel_cons (fe_t rfl) fel_nil)) (fun w' hS => shlE _ _ s _ w' ((hS.holds 0 _ rfl).ok _ mx).rd hx.dig _ hx.len (by omega) ls) (fun p hp => ⟨fun w h => pickT (l := [_, _]) h [1] rfl (by decide), ?_⟩))
  refine tb_float (i := 13) rfl (by kernel_rfl) rfl (wants_none rfl) (yq_of (y_nilCheck (fe_t rfl))) ?_
  refine tb_float (i := 14) rfl (by kernel_rfl) rfl (wants_none rfl) (yq_of (y_fieldAddr (td := 4) Try.underlying35 rfl rfl Try.sizeOf4 (o' := o) rfl (fe_t rfl))) ?_
  refine tb_one2 (i := 15) rfl (by kernel_rfl) (by kernel_rfl) (wants_none rfl) (oj_stN1 1 0 Try.sizeOf4 (fe_t rfl) (fe_t rfl) rfl rfl (⟨fun w h => h.pick [] _ rfl (by decide), ?_⟩))
  refine tb_float (i := 16) rfl (by kernel_rfl) rfl (wants_none rfl) (yq_of (y_nilCheck (fe_t rfl))) ?_
  refine tb_float (i := 17) rfl (by kernel_rfl) rfl (wants_none rfl) (yq_of (y_fieldAddr (td := 33) Try.underlying35 rfl rfl Try.sizeOf33 (o' := o + 1) rfl (fe_t rfl))) ?_
  refine tb_one2 (i := 18) rfl (by kernel_rfl) (by kernel_rfl) (wants_none rfl) (oj_stN3 (ds := p.ds) 1 0 0 Try.sizeOf33 (fe_t rfl) (fe_t rfl) rfl rfl rfl rfl (fun D1 => ⟨fun w h => h.pick [] _ rfl (by decide), ?_⟩))
  refine tb_done (by kernel_rfl) ?_
  refine tx_then ?_
  refine tr_seq ?_
  refine tr_region ?_
  refine tl_step rfl (oj_val (y_move (fe_t rfl)) ?_)
  refine tl_step rfl (oj_call2 Try.call126 fe_f (fel_cons (fe_t rfl) fel_nil) (fun w' hS => lift1 (p := fun n_ => n_.is (sg x.neg (dval p.ds))) 1 0 hS rfl rfl (fun T l' hm hS => trimB hS hp.1 hp.2.1 (Nat.le_trans hp.2.2.1 (by decide)) hp.2.2.2.1)) (fun r1 hr1 => ?_))
  refine tl_step rfl (oj_val (y_assign (fe_t rfl)) ?_)
  refine tl_nil ?_
  refine tx_then ?_
  refine tr_ret ?_
  refine tx_ret (res1 Try.results118 (rok_t rfl)) (fun w' hS => ?_)
  rw [hp.2.2.2.2, show sg x.neg (dval x.ds * 2 ^ s) = zx * 2 ^ s by rw [hx.val]; cases x.neg <;> simp [sg, Int.neg_mul]] at hr1
  have hS := pickT (l := [_, _]) hS [1] rfl (by decide)
  have hS' : St w0 w' (bag _ _ ((⟨b, o, _⟩ : Ent) :: l) :: T) := hS
  exact fin1 hS' hr1

set_option maxRecDepth 100000 in
set_option maxHeartbeats 2000000 in
theorem bitB {w0 w : World} {T : List Res} {H D : List Nat} {l : List Ent} (hS : St w0 w (bag H D l :: T)) {b_x o_x : Nat} {x : Nm} {zx : Int} (mx : (⟨b_x, o_x, x⟩ : Ent) ∈ l) (hx : x.is zx) (k : Nat) (lk : k ≤ 100000) (lx : x.n ≤ 100000) (h0 : 0 ≤ zx) :
    Calls Try.prog 167 #[.pointer (some ⟨b_x, o_x, none⟩), .int .i64 (k : Int)] w fun e w' => ∃ r : BG, True ∧ e = .returned (.int .u64 (zx / 2 ^ k % 2)) ∧ St w0 w' (bag r.H r.D l :: T) := by
  have lx1 := hx.len
  refine calls_tr Try.func167 Try.ntmps167 rfl rfl hS ?_
  refine tr_seq ?_
  refine tr_region ?_
  refine tl_step rfl (oj_val (y_assign fe_c) ?_)
  refine tl_nil ?_
  refine tx_then ?_
  refine tr_seq ?_
  refine tr_seq ?_
  refine tr_region ?_
  refine tl_step rfl (oj_val (y_move (fe_t rfl)) ?_)
  refine tl_step rfl (oj_val (y_as (b := ((k / 32 : Nat) : Int)) (y_quo (fe_t rfl) fe_c (by omega)) (by omega)) ?_)
  refine tl_step rfl (oj_val (y_move (fe_t rfl)) ?_)
  refine tl_step rfl (oj_val (y_nilCheck (fe_t rfl)) ?_)
  refine tl_step rfl (oj_val (y_fieldAddr (td := 33) Try.underlying35 rfl rfl Try.sizeOf33 (o' := o_x + 1) rfl (fe_t rfl)) ?_)
  refine tl_step rfl (oj_val (y_ldN2 0 Try.isAgg33 (fe_t rfl) rfl mx) ?_)
  refine tl_step rfl (oj_val (y_len Try.underlying33 (fe_t rfl)) ?_)
  refine tl_step rfl (oj_val (y_geq (fe_t rfl) (fe_t rfl)) ?_)
  refine tl_nil ?_
  refine tx_then ?_
  refine tr_condp (fe_t rfl) (fun hq1 => ?_) (fun hq2 => ?_)
  · refine tr_seq ?_
    refine tr_region ?_
    refine tl_step rfl (oj_val (y_assign fe_c) ?_)
    refine tl_nil ?_
    refine tx_then ?_
    refine tr_ret ?_
    refine tx_then_ret ?_
    refine tx_ret (res1 Try.results167 (rok_t rfl)) (fun w' hS => ?_)
    have hlt := dval_lt2 hx.dig
    rw [nm_abs hx, show ((zx.natAbs : Nat) : Int) = zx by omega] at hlt
    have hpp : (2 : Int) ^ (32 * x.ds.length) ≤ 2 ^ k := two_mono (by omega)
    have hz : zx / 2 ^ k = 0 := Int.ediv_eq_zero_of_lt h0 (by omega)
    have hS' : St w0 w' (bag _ _ (l) :: T) := hS
    exact finG hS' (by rw [hz]; rfl)
  · refine tr_skip ?_
    refine tx_then ?_
    refine tr_seq ?_
    have hdg := hx.dig.get (k := k / 32) (by omega)
    have hpw := two_pos (k % 32)
    have hd0 : 0 ≤ x.ds[k / 32]'(by omega) / 2 ^ (k % 32) := Int.ediv_nonneg (by omega) (by omega)
    have hd1 : x.ds[k / 32]'(by omega) / 2 ^ (k % 32) ≤ x.ds[k / 32]'(by omega) := Int.ediv_le_self _ (by omega)
    have hba := bit_at x.ds k hx.dig (by omega)
    refine tr_region ?_
    refine tl_step rfl (oj_val (y_move (fe_t rfl)) ?_)
    refine tl_step rfl (oj_val (y_nilCheck (fe_t rfl)) ?_)
    refine tl_step rfl (oj_val (y_fieldAddr (td := 33) Try.underlying35 rfl rfl Try.sizeOf33 (o' := o_x + 1) rfl (fe_t rfl)) ?_)
    refine tl_step rfl (oj_val (y_ldN2 0 Try.isAgg33 (fe_t rfl) rfl mx) ?_)
    refine tl_step rfl (oj_val (y_move (fe_t rfl)) ?_)
    refine tl_step rfl (oj_val (y_as (b := ((k / 32 : Nat) : Int)) (y_quo (fe_t rfl) fe_c (by omega)) (by omega)) ?_)
    refine tl_step rfl (oj_val (y_index Try.underlying33 Try.sizeOf153 (fe_t rfl) (fe_t rfl) (rdl_bag 0 rfl mx) (by rw [cU_len, hx.len, Nat.mul_one]) (by decide) (by omega) (Nat.mul_one _)) ?_)
    refine tl_step rfl (oj_val (y_ld (v := .int .u32 (x.ds[k / 32]'(by omega))) Try.isAgg153 (fe_t rfl) (rdl_bag 0 rfl mx) (cU_get (by omega))) ?_)
    refine tl_step rfl (oj_val (y_move (fe_t rfl)) ?_)
    refine tl_step rfl (oj_val (y_as (b := ((k % 32 : Nat) : Int)) (y_rem (fe_t rfl) fe_c (by omega)) (by omega)) ?_)
    refine tl_step rfl (oj_val (y_as (b := x.ds[k / 32]'(by omega) / 2 ^ (k % 32)) (y_shr (fe_t rfl) (fe_t rfl) (by omega)) (shr_at hdg (by omega))) ?_)
    refine tl_step rfl (oj_val (y_bits (.inl rfl) (fe_t rfl) fe_c (fun w => u32_bit _ (by omega) (by omega) w)) ?_)
    refine tl_step rfl (oj_val (y_convi Try.underlying153 Try.underlying152 (fe_t rfl) (IntWalk.u64_in _ (by omega))) ?_)
    refine tl_step rfl (oj_val (y_assign (fe_t rfl)) ?_)
    refine tl_nil ?_
    refine tx_then ?_
    refine tr_ret ?_
    refine tx_ret (res1 Try.results167 (rok_t rfl)) (fun w' hS => ?_)
    rw [nm_abs hx, show ((zx.natAbs : Nat) : Int) = zx by omega] at hba
    have hS' : St w0 w' (bag _ _ (l) :: T) := hS
    exact finG hS' (by rw [hba])

set_option maxRecDepth 100000 in
set_option maxHeartbeats 2000000 in
theorem setbitB {w0 w : World} {T : List Res} {H D : List Nat} {l : List Ent} {b o : Nat} {q : Nm} (hS : St w0 w (bag H D (⟨b, o, q⟩ :: l) :: T)) {b_x o_x : Nat} {x : Nm} {zx : Int} (mx : (⟨b_x, o_x, x⟩ : Ent) ∈ (⟨b, o, q⟩ : Ent) :: l) (hx : x.is zx) (k : Nat) (lk : k ≤ 100) (h0 : 0 ≤ zx) (sx : Sm zx) (hb : zx / 2 ^ k % 2 = 0) :
    Calls Try.prog 113 #[.pointer (some ⟨b, o, none⟩), .pointer (some ⟨b_x, o_x, none⟩), .int .i64 (k : Int), .int .u64 1] w fun e w' => ∃ r : B1, r.q.is (zx + 2 ^ k) ∧ e = .returned (.pointer (some ⟨b, o, none⟩)) ∧ St w0 w' (bag r.H r.D (⟨b, o, r.q⟩ :: l) :: T) := by
  have s1 : Sm 1 := sm_of (by omega) (by omega)
  have lx := nm_sm hx sx
  have p0 := two_pos k
  have p1 : (2 : Int) ^ k ≤ 2 ^ 100 := two_mono lk
  have sk : Sm (2 ^ k) := sm_of (by omega) (by omega)
  refine calls_tr Try.func113 Try.ntmps113 rfl rfl hS ?_
  refine tr_seq ?_
  refine tr_region ?_
  refine tl_step rfl (oj_val (y_assign fe_c) ?_)
  refine tl_nil ?_
  refine tx_then ?_
  refine tr_seq ?_
  refine tr_region ?_
  refine tl_step rfl (oj_allocN 0 Try.zeroValue35 rfl (fun b_i H_i => ?_))
  refine tl_step rfl (oj_call2 Try.call111 fe_f (fel_cons fe_c fel_nil) (fun w' hS => lift 0 hS rfl (fun T hS => newB hS 1 (by omega) (by omega))) (fun r1 hr1 => ?_))
  refine tl_step rfl (oj_val (y_move (fe_t rfl)) ?_)
  refine tl_step rfl (oj_val (y_convi Try.underlying3 Try.underlying152 (fe_t rfl) (IntWalk.u64_in _ (by omega))) ?_)
  refine tl_step rfl (oj_call2 Try.call118 fe_f (fel_cons (fe_t rfl) (fel_cons (fe_t rfl) (fel_cons (fe_t rfl) fel_nil))) (fun w' hS => lift1 (p := fun n_ => n_.is (1 * 2 ^ k)) 0 1 hS rfl rfl (fun T l' hm hS => lshB hS (hm _ (pget_mem 0 rfl)) hr1 (Nat.le_trans (nm_sm hr1 s1) (by decide)) k (by omega))) (fun r2 hr2 => ?_))
  refine tl_step rfl (oj_val (y_assign (fe_t rfl)) ?_)
  refine tl_nil ?_
  refine tx_then ?_
  refine tr_seq ?_
  refine tr_block ?_
  refine tr_seq ?_
  refine tr_region ?_
  refine tl_step rfl (oj_val (y_move (fe_t rfl)) ?_)
  refine tl_step rfl (oj_val (y_move (fe_t rfl)) ?_)
  refine tl_step rfl (oj_call2 Try.call167 fe_f (fel_cons (fe_t rfl) (fel_cons (fe_t rfl) fel_nil)) (fun w' hS => lift 0 hS rfl (fun T hS => bitB hS (List.mem_cons_of_mem _ (List.mem_cons_of_mem _ mx)) hx k (by omega) (by omega) h0)) (fun r3 _ => ?_))
  refine tl_step rfl (oj_val (y_move (fe_t rfl)) ?_)
  refine tl_step rfl (oj_val (y_eq (fe_t rfl) (fe_t rfl)) ?_)
  refine tl_step rfl (oj_val (y_assign (fe_t rfl)) ?_)
  refine tl_nil ?_
  refine tx_then ?_
  refine tr_condp (fe_t rfl) (fun hq1 => ?_) (fun hq2 => ?_)
  · exfalso; omega
  · refine tr_seq ?_
    refine tr_region ?_
    refine tl_step rfl (oj_val (y_move (fe_t rfl)) ?_)
    refine tl_step rfl (oj_val (y_eq (fe_t rfl) fe_c) ?_)
    refine tl_step rfl (oj_val (y_assign (fe_t rfl)) ?_)
    refine tl_nil ?_
    refine tx_then ?_
    refine tr_condp (fe_t rfl) (fun hq3 => ?_) (fun hq4 => ?_)
    · refine tr_seq ?_
      refine tr_region ?_
      refine tl_step rfl (oj_val (y_move (fe_t rfl)) ?_)
      refine tl_step rfl (oj_val (y_move (fe_t rfl)) ?_)
      refine tl_step rfl (oj_val (y_move (fe_t rfl)) ?_)
      refine tl_step rfl (oj_call2 Try.call41 fe_f (fel_cons (fe_t rfl) (fel_cons (fe_t rfl) (fel_cons (fe_t rfl) fel_nil))) (fun w' hS => lift1 (p := fun n_ => n_.is (zx + (1 * 2 ^ k))) 0 2 hS rfl rfl (fun T l' hm hS => addB hS (hm _ (List.mem_cons_of_mem _ (List.mem_cons_of_mem _ mx))) (hm _ (pget_mem 1 rfl)) hx hr2 sx (by rw [Int.one_mul]; exact sk))) (fun r4 hr4 => ?_))
      refine tl_step rfl (oj_val (y_assign (fe_t rfl)) ?_)
      refine tl_nil ?_
      refine tx_then ?_
      refine tr_ret ?_
      refine tx_in_ret ?_
      refine tx_then_ret ?_
      refine tx_ret (res1 Try.results113 (rok_t rfl)) (fun w' hS => ?_)
      have hS := St.bagpick (es := [_, _, _]) 0 hS rfl [2] rfl (by decide)
      have hS' : St w0 w' (bag _ _ ((⟨b, o, _⟩ : Ent) :: l) :: T) := hS
      exact fin1 hS' (by rw [show zx + 2 ^ k = zx + 1 * 2 ^ k by omega]; exact hr4)
    · exfalso; omega

end Go.Proofs.Ytcpdelkamckmfaa.Frac

namespace Go.Proofs.Ytcpdelkamckmfaa.Frac
open Go.RowKit Go.Proofs.Ytcpdelkamckmfaa.E Go.Proofs.Ytcpdelkamckmfaa.Big

/-- The root, rounded down. -/
def isq : Nat → Nat
  | 0 => 0
  | n + 1 => if (isq n + 1) * (isq n + 1) ≤ n + 1 then isq n + 1 else isq n
theorem isq_ok : ∀ n, isq n * isq n ≤ n ∧ n < (isq n + 1) * (isq n + 1)
  | 0 => by simp [isq]
  | n + 1 => by
    have ih := isq_ok n
    rw [isq]
    split
    · rename_i h
      refine ⟨h, ?_⟩
      have : (isq n + 1 + 1) * (isq n + 1 + 1) = (isq n + 1) * (isq n + 1) + 2 * isq n + 3 := by grind
      omega
    · omega
theorem isq_eq {n r : Nat} (h1 : r * r ≤ n) (h2 : n < (r + 1) * (r + 1)) : isq n = r := by
  obtain ⟨h3, h4⟩ := isq_ok n
  rcases Nat.lt_trichotomy (isq n) r with h | h | h
  · have := Nat.mul_le_mul (show isq n + 1 ≤ r from h) (show isq n + 1 ≤ r from h)
    omega
  · exact h
  · have := Nat.mul_le_mul (show r + 1 ≤ isq n from h) (show r + 1 ≤ isq n from h)
    omega
/-- A root, as far as bit k. -/
def RtInv (n r k : Nat) : Prop := 2 ^ k ∣ r ∧ r * r ≤ n ∧ n < (r + 2 ^ k) * (r + 2 ^ k)
theorem rt_bit {n r k : Nat} (h : RtInv n r (k + 1)) : r / 2 ^ k % 2 = 0 := by
  obtain ⟨⟨c, hc⟩, _⟩ := h
  rw [hc, Nat.pow_succ, Nat.mul_assoc, Nat.mul_div_cancel_left _ (Nat.two_pow_pos k), Nat.mul_mod_right]
theorem rt_yes {n r k : Nat} (h : RtInv n r (k + 1)) (hle : (r + 2 ^ k) * (r + 2 ^ k) ≤ n) : RtInv n (r + 2 ^ k) k := by
  obtain ⟨⟨c, hc⟩, h2, h3⟩ := h
  refine ⟨⟨2 * c + 1, by rw [hc, Nat.pow_succ]; grind⟩, hle, ?_⟩
  rw [Nat.add_assoc, show 2 ^ k + 2 ^ k = 2 ^ (k + 1) by rw [Nat.pow_succ]; omega]
  exact h3
theorem rt_no {n r k : Nat} (h : RtInv n r (k + 1)) (hlt : n < (r + 2 ^ k) * (r + 2 ^ k)) : RtInv n r k :=
  ⟨Nat.dvd_trans (Nat.pow_dvd_pow 2 (by omega)) h.1, h.2.1, hlt⟩
theorem rt_start {n k : Nat} (h : n < 2 ^ (2 * k)) : RtInv n 0 k := by
  refine ⟨Nat.dvd_zero _, by omega, ?_⟩
  rw [Nat.zero_add, ← Nat.pow_add, show k + k = 2 * k by omega]
  exact h
theorem rt_end {n r : Nat} (h : RtInv n r 0) : isq n = r := isq_eq h.2.1 h.2.2
theorem rt_lt {n r k m : Nat} (h : RtInv n r k) (hn : n < 2 ^ (2 * m)) : r < 2 ^ m := by
  rcases Nat.lt_or_ge r (2 ^ m) with h1 | h1
  · exact h1
  · have := Nat.mul_le_mul h1 h1
    rw [← Nat.pow_add, show m + m = 2 * m by omega] at this
    have := h.2.1
    omega
theorem bl_bd {n m : Nat} (h : bl n ≤ m) : n < 2 ^ m := by
  unfold bl at h
  split at h
  · rename_i h0; rw [h0]; exact Nat.two_pow_pos _
  · rename_i h0
    exact (Nat.log2_lt h0).1 (by omega)
theorem bitlenN {w0 w : World} {T : List Res} {H D : List Nat} {l : List Ent} (hS : St w0 w (bag H D l :: T)) {b_x o_x : Nat} {x : Nm} {n : Nat} (mx : (⟨b_x, o_x, x⟩ : Ent) ∈ l) (hx : x.is (n : Int)) (lx : x.n ≤ 100000) :
    Calls Try.prog 112 #[.pointer (some ⟨b_x, o_x, none⟩)] w fun e w' => ∃ r : BG, True ∧ e = .returned (.int .i64 ((bl n : Nat) : Int)) ∧ St w0 w' (bag r.H r.D l :: T) := by
  have := bitlenB hS mx hx lx
  rwa [Int.natAbs_natCast] at this

theorem sq_facts {n v k : Nat} (h : RtInv n v k) (hk : 0 < k) (hk' : k ≤ 34) (hv : v < 4294967296) : RtInv n v (k - 1 + 1) ∧ (v : Int) / 2 ^ (k - 1) % 2 = 0 ∧ (v : Int) + 2 ^ (k - 1) = ((v + 2 ^ (k - 1) : Nat) : Int) ∧ (2 : Nat) ^ (k - 1) ≤ 8589934592 := by
  have e : k - 1 + 1 = k := by omega
  rw [e]
  have hb := rt_bit (n := n) (r := v) (k := k - 1) (by rwa [e])
  have c : ((2 ^ (k - 1) : Nat) : Int) = 2 ^ (k - 1) := by rw [Int.natCast_pow]; rfl
  refine ⟨h, ?_, by omega, Nat.pow_le_pow_right (n := 2) (by decide) (show k - 1 ≤ 33 by omega)⟩
  rw [← c, ← Int.natCast_ediv]
  omega
theorem sq_cmp {n t : Nat} (z : Int) (hz : z = (t : Int)) (ht : t ≤ 12884901888) : (cmp ((z * z).natAbs : Int) ((n : Int).natAbs : Int) ≤ 0 → t * t ≤ n) ∧ (¬ cmp ((z * z).natAbs : Int) ((n : Int).natAbs : Int) ≤ 0 → n < t * t) := by
  have e : (z * z).natAbs = t * t := by rw [hz, ← Int.natCast_mul]; rfl
  rw [e]
  constructor
  · intro h
    unfold cmp at h
    split at h
    · omega
    · split at h <;> omega
  · intro h
    unfold cmp at h
    split at h
    · omega
    · split at h <;> omega

set_option maxRecDepth 100000 in
set_option maxHeartbeats 4000000 in
theorem sqrtB {w0 w : World} {T : List Res} {H D : List Nat} {l : List Ent} {b o : Nat} {q : Nm} (hS : St w0 w (bag H D (⟨b, o, q⟩ :: l) :: T)) {b_x o_x : Nat} {x : Nm} {n : Nat} (mx : (⟨b_x, o_x, x⟩ : Ent) ∈ (⟨b, o, q⟩ : Ent) :: l) (hx : x.is (n : Int)) (hn : n < 18446744073709551616) :
    Calls Try.prog 29 #[.pointer (some ⟨b, o, none⟩), .pointer (some ⟨b_x, o_x, none⟩)] w fun e w' => ∃ r : B1, r.q.is (((isq n : Nat) : Int)) ∧ e = .returned (.pointer (some ⟨b, o, none⟩)) ∧ St w0 w' (bag r.H r.D (⟨b, o, r.q⟩ :: l) :: T) := by
  have sn : Sm (n : Int) := sm_of (by omega) (by omega)
  have lx := nm_sm hx sn
  have hbl := bl_lt (v := n) (k := 64) (by omega)
  refine calls_tr Try.func29 Try.ntmps29 rfl rfl hS ?_
  refine tr_seq ?_
  refine tr_region ?_
  refine tl_step rfl (oj_val (y_assign fe_c) ?_)
  refine tl_nil ?_
  refine tx_then ?_
  refine tr_seq ?_
  refine tr_region ?_
  refine tl_step rfl (oj_call2 Try.call111 fe_f (fel_cons fe_c fel_nil) (fun w' hS => lift 0 hS rfl (fun T hS => newB hS 0 (by omega) (by omega))) (fun r1 hr1 => ?_))
  refine tl_step rfl (oj_val (y_assign (fe_t rfl)) ?_)
  refine tl_nil ?_
  refine tx_then ?_
  refine tr_seq ?_
  refine tr_seq ?_
  refine tr_region ?_
  refine tl_step rfl (oj_val (y_move (fe_t rfl)) ?_)
  refine tl_step rfl (oj_call2 Try.call112 fe_f (fel_cons (fe_t rfl) fel_nil) (fun w' hS => lift 0 hS rfl (fun T hS => bitlenN hS (List.mem_cons_of_mem _ mx) hx (by omega))) (fun r2 _ => ?_))
  refine tl_step rfl (oj_val (y_as (b := ((bl n / 2 : Nat) : Int)) (y_quo (fe_t rfl) fe_c (by omega)) (by omega)) ?_)
  refine tl_step rfl (oj_val (y_as (b := ((bl n / 2 + 2 : Nat) : Int) - 1) (y_add (fe_t rfl) fe_c (by omega)) (by omega)) ?_)
  refine tl_step rfl (oj_val (y_assign (fe_t rfl)) ?_)
  refine tl_nil ?_
  refine tx_then ?_
  refine tr_block ?_
  refine tr_loop6 [5, 6, 7, 13, 14, 15, 16, 17, 18, 19, 20, 21, 22, 23, 24, 25, 26, 27, 28] (fun (k : Nat) (v : Nat) (br : Nat) (qr : Nm) (Hx : List Nat) (Dx : List Nat) => [(5, .pointer (some ⟨br, 0, none⟩)), (6, .int .i64 ((k : Int) - 1))]) 0 (fun (k : Nat) (v : Nat) (br : Nat) (qr : Nm) (Hx : List Nat) (Dx : List Nat) => [(0, bag Hx Dx (⟨br, 0, qr⟩ :: ⟨b, o, q⟩ :: l))]) (fun (k : Nat) (v : Nat) (br : Nat) (qr : Nm) (Hx : List Nat) (Dx : List Nat) => qr.is (v : Int) ∧ k ≤ 34 ∧ RtInv n v k) (fun (k : Nat) (v : Nat) (br : Nat) (qr : Nm) (Hx : List Nat) (Dx : List Nat) => k) (bl n / 2 + 2) (0) (r1.b) (r1.q) (_) (_) (cov_cons (by first | rfl | exact v_int (by omega) | exact v_bool (by simp [*])) (cov_cons (by first | rfl | exact v_int (by omega) | exact v_bool (by simp [*])) (cov_nil))) (fun w h => h) ?_ ?_
  · try dsimp only
    exact ⟨hr1, by omega, rt_start (bl_bd (by omega))⟩
  intro k v br qr Hx Dx hp
  obtain ⟨hqr, hk, hinv⟩ := hp
  have hv := rt_lt (m := 32) hinv (by omega)
  refine tr_seq ?_
  refine tr_seq ?_
  refine tr_region ?_
  refine tl_step rfl (oj_val (y_move (fe_t rfl)) ?_)
  refine tl_step rfl (oj_val (y_geq (fe_t rfl) fe_c) ?_)
  refine tl_nil ?_
  refine tx_then ?_
  refine tr_condp (fe_t rfl) (fun hq1 => ?_) (fun hq2 => ?_)
  · refine tr_skip ?_
    refine tx_then ?_
    refine tr_seq ?_
    refine tr_block ?_
    refine tr_seq ?_
    obtain ⟨hinv1, hbit, hvt, hp2⟩ := sq_facts hinv (by omega) hk hv
    have hp0 := two_pos (k - 1)
    have hcc := sq_cmp (n := n) (t := v + 2 ^ (k - 1)) _ hvt (by omega)
    have hpr := prod_bd (a := (v : Int) + 2 ^ (k - 1)) (b := (v : Int) + 2 ^ (k - 1)) (A := 12884901888) (B := 12884901888) (by omega) (by omega) (by omega) (by omega)
    have ht1 : Sm ((v : Int) + 2 ^ (k - 1)) := sm_of (by omega) (by omega)
    have ht2 : Sm (((v : Int) + 2 ^ (k - 1)) * ((v : Int) + 2 ^ (k - 1))) := sm_of (by omega) (by omega)
    have hv1 : Sm (v : Int) := sm_of (by omega) (by omega)
    refine tr_region ?_
    refine tl_step rfl (oj_allocN 0 Try.zeroValue35 rfl (fun b_t H_t => ?_))
    refine tl_step rfl (oj_val (y_move (fe_t rfl)) ?_)
    refine tl_step rfl (oj_val (y_as (b := ((k - 1 : Nat) : Int)) (y_move (fe_t rfl)) (by omega)) ?_)
    refine tl_step rfl (oj_call2 Try.call113 fe_f (fel_cons (fe_t rfl) (fel_cons (fe_t rfl) (fel_cons (fe_t rfl) (fel_cons fe_c fel_nil)))) (fun w' hS => lift1 (p := fun n_ => n_.is ((v : Int) + 2 ^ (k - 1))) 0 0 hS rfl rfl (fun T l' hm hS => setbitB hS (hm _ (pget_mem 1 rfl)) hqr (k - 1) (by omega) (by omega) hv1 hbit)) (fun r3 hr3 => ?_))
    refine tl_step rfl (oj_val (y_assign (fe_t rfl)) ?_)
    refine tl_nil ?_
    refine tx_then ?_
    refine tr_seq ?_
    refine tr_region ?_
    refine tl_step rfl (oj_allocN 0 Try.zeroValue35 rfl (fun b_m H_m => ?_))
    refine tl_step rfl (oj_val (y_move (fe_t rfl)) ?_)
    refine tl_step rfl (oj_val (y_move (fe_t rfl)) ?_)
    refine tl_step rfl (oj_call2 Try.call46 fe_f (fel_cons (fe_t rfl) (fel_cons (fe_t rfl) (fel_cons (fe_t rfl) fel_nil))) (fun w' hS => lift1 (p := fun n_ => n_.is (((v : Int) + 2 ^ (k - 1)) * ((v : Int) + 2 ^ (k - 1)))) 0 0 hS rfl rfl (fun T l' hm hS => mulB hS (hm _ (pget_mem 1 rfl)) (hm _ (pget_mem 1 rfl)) hr3 hr3 (Nat.le_trans (nm_sm hr3 ht1) (by decide)) (Nat.le_trans (nm_sm hr3 ht1) (by decide)))) (fun r4 hr4 => ?_))
    refine tl_step rfl (oj_val (y_move (fe_t rfl)) ?_)
    refine tl_step rfl (oj_callv Try.call114 fe_f (fel_cons (fe_t rfl) (fel_cons (fe_t rfl) fel_nil)) (fun w' hS => of_drn (cmpabs_any _ _ _ _ _ _ _ (bag_int hS 0 rfl (pget_mem 0 rfl) hr4) (bag_int hS 0 rfl (List.mem_cons_of_mem _ (List.mem_cons_of_mem _ (List.mem_cons_of_mem _ mx))) hx) ht2 sn)) ?_)
    refine tl_step rfl (oj_val (y_leq (fe_t rfl) fe_c) ?_)
    refine tl_nil ?_
    refine tx_then ?_
    refine tr_condp (fe_t rfl) (fun hq3 => ?_) (fun hq4 => ?_)
    · have hc1 := hcc.1 hq3
      refine tr_region ?_
      refine tl_step rfl (oj_val (y_move (fe_t rfl)) ?_)
      refine tl_step rfl (oj_val (y_assign (fe_t rfl)) ?_)
      refine tl_nil ?_
      refine tx_in ?_
      refine tx_then ?_
      refine tr_region ?_
      refine tl_step rfl (oj_val (y_move (fe_t rfl)) ?_)
      refine tl_step rfl (oj_val (y_sub (fe_t rfl) fe_c (by omega)) ?_)
      refine tl_step rfl (oj_val (y_assign (fe_t rfl)) ?_)
      refine tl_nil ?_
      apply tx_back6 (k - 1) (v + 2 ^ (k - 1)) (b_t) (r3.q) (_) (_)
      · exact (cov_cons (by first | rfl | exact v_int (by omega) | exact v_bool (by simp [*])) (cov_cons (by first | rfl | exact v_int (by omega) | exact v_bool (by simp [*])) (cov_nil)))
      · repeat (first | exact over_nil | refine over_put rfl ?_ | refine over_drop rfl ?_)
      · exact fun w h => St.bagpick (es := [_, _, _, _]) 0 h rfl [1, 3] rfl (by decide)
      · refine ⟨⟨?_, by omega, ?_⟩, by omega⟩
        · first | exact hqr | (rw [← hvt]; exact hr3)
        · first | exact rt_yes hinv1 (by omega) | exact rt_no hinv1 (by omega)
    · have hc1 := hcc.2 hq4
      refine tr_skip ?_
      refine tx_in ?_
      refine tx_then ?_
      refine tr_region ?_
      refine tl_step rfl (oj_val (y_move (fe_t rfl)) ?_)
      refine tl_step rfl (oj_val (y_sub (fe_t rfl) fe_c (by omega)) ?_)
      refine tl_step rfl (oj_val (y_assign (fe_t rfl)) ?_)
      refine tl_nil ?_
      apply tx_back6 (k - 1) (v) (br) (qr) (_) (_)
      · exact (cov_cons (by first | rfl | exact v_int (by omega) | exact v_bool (by simp [*])) (cov_cons (by first | rfl | exact v_int (by omega) | exact v_bool (by simp [*])) (cov_nil)))
      · repeat (first | exact over_nil | refine over_put rfl ?_ | refine over_drop rfl ?_)
      · exact fun w h => St.bagpick (es := [_, _, _, _]) 0 h rfl [2, 3] rfl (by decide)
      · refine ⟨⟨?_, by omega, ?_⟩, by omega⟩
        · first | exact hqr | (rw [← hvt]; exact hqr)
        · first | exact rt_yes hinv1 (by omega) | exact rt_no hinv1 (by omega)
  · refine tr_exit ?_
    refine tx_then_exit ?_
    refine tx_then_exit ?_
    refine tx_in_exit ?_
    refine tx_then ?_
    refine tr_seq ?_
    refine tr_region ?_
    refine tl_step rfl (oj_val (y_move (fe_t rfl)) ?_)
    refine tl_step rfl (oj_val (y_move (fe_t rfl)) ?_)
    refine tl_step rfl (oj_call2 Try.call115 fe_f (fel_cons (fe_t rfl) (fel_cons (fe_t rfl) fel_nil)) (fun w' hS => lift1 (p := fun n_ => n_.is ((v : Int))) 0 1 hS rfl rfl (fun T l' hm hS => setB hS (hm _ (pget_mem 0 rfl)) hqr (Nat.le_trans (nm_sm hqr (sm_of (by omega) (by omega))) (by decide)))) (fun r6 hr6 => ?_))
    refine tl_step rfl (oj_val (y_assign (fe_t rfl)) ?_)
    refine tl_nil ?_
    refine tx_then ?_
    refine tr_ret ?_
    refine tx_ret (res1 Try.results29 (rok_t rfl)) (fun w' hS => ?_)
    have he : isq n = v := rt_end (by rwa [show k = 0 by omega] at hinv)
    have hS := St.bagpick (es := [_, _]) 0 hS rfl [1] rfl (by decide)
    have hS' : St w0 w' (bag _ _ ((⟨b, o, _⟩ : Ent) :: l) :: T) := hS
    exact fin1 hS' (by rw [he]; exact hr6)

end Go.Proofs.Ytcpdelkamckmfaa.Frac
