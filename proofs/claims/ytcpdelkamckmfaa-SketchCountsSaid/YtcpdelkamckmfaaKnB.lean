/- Division by more digits. -/
import Derived.Test.YtcpdelkamckmfaaKnA
namespace Go.Proofs.Ytcpdelkamckmfaa.Frac
open Go.RowKit Go.Proofs.Ytcpdelkamckmfaa.E Go.Proofs.Ytcpdelkamckmfaa.Big

theorem cU_set {l l' : List Int} {j : Nat} {x : Int} (h : l' = l.set j x) : (cU l).set j (.int .u32 x) = cU l' := by rw [h, cU, cU, List.map_set]
theorem shl_u32 {a : Int} {s : Nat} (h0 : 0 ≤ a) (h : a * 2 ^ s < 4294967296) (hs : s ≤ 31) : IntKind.u32.wrap (a * 2 ^ (min (s : Int).toNat IntKind.u32.bits)) = a * 2 ^ s := by
  rw [Int.toNat_natCast, show min s IntKind.u32.bits = s from Nat.min_eq_left (by show s ≤ 32; omega)]
  exact IntWalk.u32_in _ ⟨Int.mul_nonneg h0 (by have := two_pos s; omega), by omega⟩
theorem shr31 {a : Int} (h : 0 ≤ a) : a.fdiv (2 ^ (min (31 : Int).toNat IntKind.u32.bits)) = a / 2147483648 := by
  rw [show (2 : Int) ^ (min (31 : Int).toNat IntKind.u32.bits) = 2147483648 from by decide]
  exact Int.fdiv_eq_ediv_of_nonneg _ (by omega)
theorem norm_step {a : Int} {s : Nat} (h0 : 0 < a) (h : a * 2 ^ s < 2147483648) : a * 2 ^ (s + 1) < 4294967296 ∧ s + 1 ≤ 31 := by
  refine ⟨by rw [Int.pow_succ, ← Int.mul_assoc]; omega, ?_⟩
  rcases Nat.lt_or_ge s 31 with h1 | h1
  · omega
  · have h2 := two_mono h1
    have p := two_pos s
    have h3 : 1 * 2 ^ s ≤ a * 2 ^ s := Int.mul_le_mul_of_nonneg_right (by omega) (by omega)
    have e : (2 : Int) ^ 31 = 2147483648 := rfl
    omega
theorem norm_v {y p : List Int} {m s : Nat} (hy : Dig y) (hm : y.length = m) (h2 : 2 ≤ m) (hs : s ≤ 31) {t : Int} (ht : t = y[m - 1]'(by omega)) (h0 : 0 < t) (hlt : t * 2 ^ s < 4294967296) (hge : 2147483648 ≤ t * 2 ^ s) (hp : Dig p) (hpl : p.length = m + 1) (hv : dval p = dval y * 2 ^ s) :
    dval (p.take m) = dval y * 2 ^ s ∧ (p.take m).length = m ∧ ∃ h : m - 1 < (p.take m).length, 2147483648 ≤ (p.take m)[m - 1] := by
  have ps := two_pos s
  have hl : (p.take m).length = m := by simp; omega
  obtain ⟨e1, e2, e3⟩ := dval_hi hy (show m - 1 ≤ y.length by omega)
  have e4 := dval_top (l := y) (k := m - 1) (by omega)
  have e5 : y.drop (m - 1 + 1) = [] := List.drop_eq_nil_of_le (by omega)
  rw [e5, dval, ← ht] at e4
  have e6 : dval (y.drop (m - 1)) = t := by omega
  rw [e6] at e1
  have pp := pw_pos (m - 1)
  -- an upper bound
  have hs2 : (4294967296 : Int) = 2 ^ s * 2 ^ (32 - s) := two_split (by omega)
  have ht1 : (t + 1) * 2 ^ s ≤ 4294967296 := by
    have h3 : t < 2 ^ (32 - s) := by
      rw [hs2, Int.mul_comm] at hlt
      exact Int.lt_of_mul_lt_mul_left hlt (by omega)
    have h4 : (t + 1) * 2 ^ s ≤ 2 ^ (32 - s) * 2 ^ s := Int.mul_le_mul_of_nonneg_right (by omega) (by omega)
    rw [hs2, Int.mul_comm (2 ^ s)]
    exact h4
  have hub : dval p < pw m := by
    have h3 : dval y * 2 ^ s < (pw (m - 1) * (t + 1)) * 2 ^ s := Int.mul_lt_mul_of_pos_right (by rw [Int.mul_add]; omega) ps
    have h4 : pw (m - 1) * ((t + 1) * 2 ^ s) ≤ pw (m - 1) * 4294967296 := Int.mul_le_mul_of_nonneg_left ht1 (by omega)
    have h5 : pw m = pw (m - 1) * 4294967296 := by rw [← Int.mul_comm, ← pw_succ, show m - 1 + 1 = m by omega]
    rw [Int.mul_assoc] at h3
    omega
  have hz := zero_above hp hub
  have hd : dval (p.take m) = dval p := dval_take_zero (by omega) hz
  refine ⟨by rw [hd, hv], hl, by omega, ?_⟩
  -- a lower bound
  have dv := hp.take m
  obtain ⟨g1, g2, g3⟩ := dval_hi dv (show m - 1 ≤ (p.take m).length by omega)
  have g4 := dval_top (l := p.take m) (k := m - 1) (by omega)
  have g5 : (p.take m).drop (m - 1 + 1) = [] := List.drop_eq_nil_of_le (by omega)
  rw [g5, dval] at g4
  have g6 : dval (p.take m) = dval ((p.take m).take (m - 1)) + pw (m - 1) * (p.take m)[m - 1] := by rw [g1, g4]; simp
  have h3 : pw (m - 1) * 2147483648 ≤ dval p := by
    rw [hv, e1, Int.add_mul]
    have h4 : pw (m - 1) * 2147483648 ≤ pw (m - 1) * (t * 2 ^ s) := Int.mul_le_mul_of_nonneg_left hge (by omega)
    have h5 : 0 ≤ dval (y.take (m - 1)) * 2 ^ s := Int.mul_nonneg e2 (by omega)
    rw [Int.mul_assoc]
    omega
  rw [hd] at g6
  rcases Int.lt_or_le (p.take m)[m - 1] 2147483648 with h4 | h4
  · have h5 : pw (m - 1) * ((p.take m)[m - 1] + 1) ≤ pw (m - 1) * 2147483648 := Int.mul_le_mul_of_nonneg_left (by omega) (by omega)
    rw [Int.mul_add] at h5
    omega
  · exact h4
theorem lead_le {W V P a b u2 u1 u0 v1 v2 : Int} (hP : 0 < P) (h0 : 0 ≤ a) (hb : b < P) (hu1 : 0 ≤ u1) (hu0 : 0 ≤ u0) (hv2 : v2 < 4294967296) (hW : W = a + P * ((u2 * 4294967296 + u1) * 4294967296 + u0)) (hV : V = b + P * (v1 * 4294967296 + v2)) (hlt : W < V * 4294967296) : u2 ≤ v1 := by
  rcases Int.lt_or_le v1 u2 with h | h
  · have h1 : P * ((v1 + 1) * 4294967296 * 4294967296) ≤ P * ((u2 * 4294967296 + u1) * 4294967296 + u0) := Int.mul_le_mul_of_nonneg_left (by omega) (by omega)
    have h2 : V * 4294967296 ≤ P * ((v1 + 1) * 4294967296 * 4294967296) := by
      have h3 : P * (v1 * 4294967296 + v2 + 1) ≤ P * ((v1 + 1) * 4294967296) := Int.mul_le_mul_of_nonneg_left (by omega) (by omega)
      rw [Int.mul_add] at h3
      have h4 : V ≤ P * ((v1 + 1) * 4294967296) := by omega
      have h5 := Int.mul_le_mul_of_nonneg_right h4 (show (0 : Int) ≤ 4294967296 by omega)
      rwa [Int.mul_assoc P] at h5
    omega
  · exact h
theorem k_start {x y u v : List Int} {n m s : Nat} (hx : Dig x) (hn : x.length = n) (hmn : m ≤ n) (hs : s ≤ 31) (hdu : Dig u) (hul : u.length = n + 1) (huv : dval u = dval x * 2 ^ s) (hvl : v.length = m) (h2 : 2 ≤ m) (hdv : Dig v) (hv : dval v = dval y * 2 ^ s) (htop : 2147483648 ≤ v[m - 1]'(by omega)) : KInv (dval x * 2 ^ s) u (List.replicate (n + 1) 0) v m (n + 1 - m) (dval y * 2 ^ s) := by
  refine ⟨hdu, Dig.zeros _, by rw [dval_zeros, Int.mul_zero, Int.add_zero, huv], ?_, fun j _ h => by simp⟩
  rw [← hv, huv]
  have h1 := dval_lt hx
  rw [hn] at h1
  have g1 := (dval_hi hdv (show m - 1 ≤ v.length by omega))
  have g2 := dval_top (l := v) (k := m - 1) (by omega)
  have g3 : v.drop (m - 1 + 1) = [] := List.drop_eq_nil_of_le (by omega)
  rw [g3, dval] at g2
  have pp := pw_pos (m - 1)
  have pn := pw_pos n
  have h3 : pw (m - 1) * 2147483648 ≤ dval v := by
    have h4 : pw (m - 1) * 2147483648 ≤ pw (m - 1) * dval (v.drop (m - 1)) := Int.mul_le_mul_of_nonneg_left (by omega) (by omega)
    omega
  have h5 : pw (m - 1) * 2147483648 * pw (n + 1 - m) ≤ dval v * pw (n + 1 - m) := Int.mul_le_mul_of_nonneg_right h3 (by have := pw_pos (n + 1 - m); omega)
  have h6 : pw (m - 1) * 2147483648 * pw (n + 1 - m) = pw n * 2147483648 := by
    have : pw n = pw (m - 1) * pw (n + 1 - m) := by rw [← pw_add]; congr 1; omega
    rw [this]; grind
  have h7 := two_le (m := s) (by omega)
  have h8 : dval x * 2 ^ s < pw n * 2 ^ s := Int.mul_lt_mul_of_pos_right h1 (two_pos s)
  have h9 : pw n * 2 ^ s ≤ pw n * 2147483648 := Int.mul_le_mul_of_nonneg_left h7 (by omega)
  omega
theorem k_fin {X Y : Int} {us zs v : List Int} {m s : Nat} (h : KInv (X * 2 ^ s) us zs v m 0 (Y * 2 ^ s)) (hY : 0 < Y) (hVm : Y * 2 ^ s < pw m) (hl : m ≤ us.length) : dval zs = X / Y ∧ dval (us.take m) / 2 ^ s = X % Y := by
  have ps := two_pos s
  have hV : 0 < Y * 2 ^ s := Int.mul_pos hY ps
  obtain ⟨h1, h2⟩ := k_end h hV
  have hlt := h.lt
  rw [pw_zero, Int.mul_one] at hlt
  have hz := zero_above h.du (show dval us < pw m by omega)
  have e : X * 2 ^ s % (Y * 2 ^ s) = (X % Y) * 2 ^ s := by rw [Int.mul_comm X, Int.mul_comm Y, Int.mul_emod_mul_of_pos _ _ ps, Int.mul_comm]
  rw [dval_take_zero hl hz, h1, h2, Int.mul_ediv_mul_of_pos_left _ _ ps, e, Int.mul_ediv_cancel _ (by omega)]
  exact ⟨rfl, rfl⟩

set_option maxRecDepth 100000 in
set_option maxHeartbeats 2000000 in
theorem shlL (A : Option Addr) (c s : Nat) (x : List Int) (w : World) (hr : Rd w A (cU x)) (hx : Dig x) (n : Nat) (hn : x.length = n) (lx : n ≤ 100000) (ls : s ≤ 1000) :
    Calls Try.prog 168 #[.slice A n c, .int .i64 (s : Int)] w fun e w' => ∃ p : Nm, (p.n = n + s / 32 + 1 ∧ p.ds.length = p.n ∧ p.n ≤ p.c ∧ p.n ≤ 200000 ∧ Dig p.ds ∧ dval p.ds =  dval x * 2 ^ s) ∧ e = .returned (.slice p.A p.n p.c) ∧ St w w' [p.d] := by
  refine calls_tr Try.func168 Try.ntmps168 rfl rfl (St.refl _) ?_
  refine tr_seq ?_
  refine tr_region ?_
  refine tl_step rfl (oj_val (y_assign fe_c) ?_)
  refine tl_nil ?_
  refine tx_then ?_
  refine tr_seq ?_
  refine tr_region ?_
  refine tl_step rfl (oj_val (y_move (fe_t rfl)) ?_)
  refine tl_step rfl (oj_val (y_len Try.underlying33 (fe_t rfl)) ?_)
  refine tl_step rfl (oj_val (y_move (fe_t rfl)) ?_)
  refine tl_step rfl (oj_val (y_as (b := ((s / 32 : Nat) : Int)) (y_quo (fe_t rfl) fe_c (by omega)) (by omega)) ?_)
  refine tl_step rfl (oj_val (y_as (b := ((n + s / 32 : Nat) : Int)) (y_add (fe_t rfl) (fe_t rfl) (by omega)) (by omega)) ?_)
  refine tl_step rfl (oj_val (y_as (b := ((n + s / 32 + 1 : Nat) : Int)) (y_add (fe_t rfl) fe_c (by omega)) (by omega)) ?_)
  refine tl_step rfl (oj_make (n := n + s / 32 + 1) (z := (.int .u32 0)) (bytes := 4) Try.underlying33 (by kernel_rfl) (fe_t rfl) (fe_t rfl) rfl ⟨by omega, by decide⟩ (fun g => ?_))
  refine tl_step rfl (oj_val (y_assign (fe_t rfl)) ?_)
  refine tl_nil ?_
  refine tx_then ?_
  refine tr_seq ?_
  refine tr_seq ?_
  refine tr_region ?_
  refine tl_step rfl (oj_val (y_move (fe_t rfl)) ?_)
  refine tl_step rfl (oj_val (y_len Try.underlying33 (fe_t rfl)) ?_)
  refine tl_step rfl (oj_val (y_move fe_c) ?_)
  refine tl_nil ?_
  refine tx_then ?_
  refine tr_block ?_
  refine tr_loop3 [6, 7, 8, 18, 19, 20, 21, 22, 23, 24, 25, 26, 27, 28, 29, 30, 31, 32, 33, 34, 35, 36, 37, 38, 39, 40, 41, 42, 43, 44, 45, 46, 47, 48, 49] (fun (k : Nat) (zs : List Int) (vx : List Value) => [(18, .int .i64 (k : Int))]) 0 (fun (k : Nat) (zs : List Int) (vx : List Value) => [(0, vec 153 1 (.slice (some ⟨g, 0, none⟩) (n + s / 32 + 1) (n + s / 32 + 1)) (n + s / 32 + 1) vx)]) (fun (k : Nat) (zs : List Int) (vx : List Value) => k ≤ n ∧ vx = cU zs ∧ ShInv x zs s k) (fun (k : Nat) (zs : List Int) (vx : List Value) => n - k) (0) (List.replicate (x.length + s / 32 + 1) 0) (List.replicate (n + s / 32 + 1) (.int .u32 0)) (cov_cons (by first | rfl | exact v_int (by omega) | exact v_bool (by simp [*])) (cov_nil)) (fun w h => h) ?_ ?_
  · try dsimp only
    exact ⟨by omega, by simp [cU]; omega, sh_start _ _⟩
  intro k zs vx hp
  obtain ⟨hk, hvx, hinv⟩ := hp
  have hzl := hinv.1
  refine tr_seq ?_
  refine tr_region ?_
  refine tl_step rfl (oj_val (y_lss (fe_t rfl) (fe_t rfl)) ?_)
  refine tl_nil ?_
  refine tx_then ?_
  refine tr_seq ?_
  refine tr_condp (fe_t rfl) (fun hq1 => ?_) (fun hq2 => ?_)
  · refine tr_skip ?_
    refine tx_then ?_
    refine tr_seq ?_
    refine tr_block ?_
    refine tr_seq ?_
    refine tr_region ?_
    refine tl_step rfl (oj_val (y_move (fe_t rfl)) ?_)
    refine tl_step rfl (oj_val (y_index Try.underlying33 Try.sizeOf153 (fe_t rfl) (fe_t rfl) (rdl_out hr) (by rw [cU_len]; omega) (by decide) (by omega) (Nat.mul_one _)) ?_)
    refine tl_step rfl (oj_val (y_ld (v := .int .u32 (x[k]'(by omega))) Try.isAgg153 (fe_t rfl) (rdl_out hr) (cU_get (by omega))) ?_)
    refine tl_step rfl (oj_val (y_assign (fe_t rfl)) ?_)
    refine tl_step rfl (oj_val (y_assign (fe_t rfl)) ?_)
    refine tl_nil ?_
    refine tx_then ?_
    refine tr_seq ?_
    have hxi := hx.get (k := k) (by omega)
    obtain ⟨s0, s1, hl, ho, o0, o1, hnx⟩ := sh_step hinv hx (k := k) (by omega) rfl
    refine tr_region ?_
    refine tl_step rfl (oj_val (y_move (fe_t rfl)) ?_)
    refine tl_step rfl (oj_val (y_convi Try.underlying153 Try.underlying41 (fe_t rfl) (IntWalk.u64_in _ (by omega))) ?_)
    refine tl_step rfl (oj_val (y_move (fe_t rfl)) ?_)
    refine tl_step rfl (oj_val (y_as (b := ((s % 32 : Nat) : Int)) (y_rem (fe_t rfl) fe_c (by omega)) (by omega)) ?_)
    refine tl_step rfl (oj_val (y_as (y_shl (fe_t rfl) (fe_t rfl) (by omega)) (shl_at hxi (by omega))) ?_)
    refine tl_step rfl (oj_val (y_assign (fe_t rfl)) ?_)
    refine tl_nil ?_
    refine tx_then ?_
    refine tr_seq ?_
    refine tr_region ?_
    refine tl_step rfl (oj_val (y_move (fe_t rfl)) ?_)
    refine tl_step rfl (oj_val (y_move (fe_t rfl)) ?_)
    refine tl_step rfl (oj_val (y_move (fe_t rfl)) ?_)
    refine tl_step rfl (oj_val (y_as (b := ((s / 32 : Nat) : Int)) (y_quo (fe_t rfl) fe_c (by omega)) (by omega)) ?_)
    refine tl_step rfl (oj_val (y_as (b := ((k + s / 32 : Nat) : Int)) (y_add (fe_t rfl) (fe_t rfl) (by omega)) (by omega)) ?_)
    refine tl_step rfl (oj_val (y_index Try.underlying33 Try.sizeOf153 (fe_t rfl) (fe_t rfl) (rdl_vec 0 rfl) (by first | (rw [hvx, cU_len]; omega) | (rw [hvx, List.length_set, cU_len]; omega)) (by decide) (by omega) (Nat.mul_one _)) ?_)
    refine tl_step rfl (oj_val (y_ld (v := .int .u32 (zs[k + s / 32]'(by omega))) Try.isAgg153 (fe_t rfl) (rdl_vec 0 rfl) (by rw [hvx]; exact cU_get (by omega))) ?_)
    refine tl_step rfl (oj_val (y_move (fe_t rfl)) ?_)
    refine tl_step rfl (oj_val (y_as (y_conv Try.underlying41 Try.underlying153 (fe_t rfl)) (wrap_lo _)) ?_)
    refine tl_step rfl (oj_val (y_bits (.inr (.inl rfl)) (fe_t rfl) (fe_t rfl) (fun w => u32_orw _ _ _ ho w)) ?_)
    refine tl_step rfl (oj_val (y_index Try.underlying33 Try.sizeOf153 (fe_t rfl) (fe_t rfl) (rdl_vec 0 rfl) (by first | (rw [hvx, cU_len]; omega) | (rw [hvx, List.length_set, cU_len]; omega)) (by decide) (by omega) (Nat.mul_one _)) ?_)
    refine tl_step rfl (oj_storeE1 (i := 0) Try.sizeOf153 (fe_t rfl) (fe_t rfl) rfl rfl rfl (by omega) (?_))
    refine tl_nil ?_
    refine tx_then ?_
    refine tr_region ?_
    refine tl_step rfl (oj_val (y_move (fe_t rfl)) ?_)
    refine tl_step rfl (oj_val (y_move (fe_t rfl)) ?_)
    refine tl_step rfl (oj_val (y_move (fe_t rfl)) ?_)
    refine tl_step rfl (oj_val (y_as (b := ((s / 32 : Nat) : Int)) (y_quo (fe_t rfl) fe_c (by omega)) (by omega)) ?_)
    refine tl_step rfl (oj_val (y_as (b := ((k + s / 32 : Nat) : Int)) (y_add (fe_t rfl) (fe_t rfl) (by omega)) (by omega)) ?_)
    refine tl_step rfl (oj_val (y_as (b := ((k + s / 32 + 1 : Nat) : Int)) (y_add (fe_t rfl) fe_c (by omega)) (by omega)) ?_)
    refine tl_step rfl (oj_val (y_move (fe_t rfl)) ?_)
    refine tl_step rfl (oj_val (y_as (y_shr (fe_t rfl) fe_c (by decide)) (shr32 s0)) ?_)
    refine tl_step rfl (oj_val (y_convi Try.underlying41 Try.underlying153 (fe_t rfl) (IntWalk.u32_in _ (by omega))) ?_)
    refine tl_step rfl (oj_val (y_index Try.underlying33 Try.sizeOf153 (fe_t rfl) (fe_t rfl) (rdl_vec 0 rfl) (by first | (rw [hvx, cU_len]; omega) | (rw [hvx, List.length_set, cU_len]; omega)) (by decide) (by omega) (Nat.mul_one _)) ?_)
    refine tl_step rfl (oj_storeE1 (i := 0) Try.sizeOf153 (fe_t rfl) (fe_t rfl) rfl rfl rfl (by omega) (?_))
    refine tl_nil ?_
    refine tx_in ?_
    refine tx_then ?_
    refine tr_region ?_
    refine tl_step rfl (oj_val (y_inc (fe_t rfl) fe_c (by omega)) ?_)
    refine tl_step rfl (oj_val (y_move (fe_t rfl)) ?_)
    refine tl_nil ?_
    apply tx_back3 (k + 1) (((zs.set (k + s / 32) (zs[k + s / 32]'(by omega) + (x[k]'(by omega) * 2 ^ (s % 32)) % 4294967296)).set (k + s / 32 + 1) ((x[k]'(by omega) * 2 ^ (s % 32)) / 4294967296))) (_)
    · exact (cov_cons (by first | rfl | exact v_int (by omega) | exact v_bool (by simp [*])) (cov_nil))
    · repeat (first | exact over_nil | refine over_put rfl ?_ | refine over_drop rfl ?_)
    · exact fun w h => h.pick [0] _ rfl (by decide)
    · exact ⟨⟨by omega, by rw [hvx, cU, cU, List.map_set, List.map_set], hnx⟩, by omega⟩
  · refine tr_exit ?_
    refine tx_then_exit ?_
    refine tx_then_exit ?_
    refine tx_in_exit ?_
    refine tx_then ?_
    refine tr_seq ?_
    refine tr_region ?_
    refine tl_step rfl (oj_val (y_move (fe_t rfl)) ?_)
    refine tl_step rfl (oj_val (y_assign (fe_t rfl)) ?_)
    refine tl_nil ?_
    refine tx_then ?_
    refine tr_ret ?_
    refine tx_ret (res1 Try.results168 (rok_t rfl)) (fun w' hS => ?_)
    have hd := sh_end hinv (by omega)
    rw [hvx] at hS
    exact ⟨⟨false, some ⟨g, 0, none⟩, n + s / 32 + 1, n + s / 32 + 1, zs⟩, ⟨rfl, by dsimp only; omega, Nat.le_refl _, by dsimp only; omega, hinv.2.1, hd⟩, rfl, hS.pick [0] _ rfl (by decide)⟩

set_option maxRecDepth 100000 in
set_option maxHeartbeats 8000000 in
theorem parts_many (A A' : Option Addr) (c c' : Nat) (x y : List Int) (w : World) (hr : Rd w A (cU x)) (hr' : Rd w A' (cU y)) (hx : Dig x) (hy : Dig y) (n m : Nat) (hn : x.length = n) (hm : y.length = m) (hm2 : 2 ≤ m) (hmn : m ≤ n) (lx : n ≤ 100000) (hy0 : 0 < y[m - 1]'(by omega)) (hY : 0 < dval y) :
    Calls Try.prog 172 #[.slice A n c, .slice A' m c'] w fun e w' => ∃ p : Nm × Nm, ((p.1.ds.length = p.1.n ∧ p.1.n ≤ p.1.c ∧ p.1.n ≤ 200000 ∧ Dig p.1.ds) ∧ (p.2.ds.length = p.2.n ∧ p.2.n ≤ p.2.c ∧ p.2.n ≤ 200000 ∧ Dig p.2.ds) ∧ dval p.1.ds = dval x / dval y ∧ dval p.2.ds = dval x % dval y) ∧ e = .returned (.tuple #[.slice p.1.A p.1.n p.1.c, .slice p.2.A p.2.n p.2.c]) ∧ St w w' [p.1.d, p.2.d] := by
  have hyt := hy.get (k := m - 1) (by omega)
  refine calls_tr Try.func172 Try.ntmps172 rfl rfl (St.refl _) ?_
  refine tr_seq ?_
  refine tr_region ?_
  refine tl_step rfl (oj_val (y_assign fe_c) ?_)
  refine tl_step rfl (oj_val (y_assign fe_c) ?_)
  refine tl_nil ?_
  refine tx_then ?_
  refine tr_seq ?_
  refine tr_seq ?_
  refine tr_region ?_
  refine tl_step rfl (oj_val (y_move (fe_t rfl)) ?_)
  refine tl_step rfl (oj_val (y_len Try.underlying33 (fe_t rfl)) ?_)
  refine tl_step rfl (oj_val (y_eq (fe_t rfl) fe_c) ?_)
  refine tl_nil ?_
  refine tx_then ?_
  refine tr_condp (fe_t rfl) (fun hq1 => ?_) (fun hq2 => ?_)
  · exfalso; omega
  · refine tr_skip ?_
    refine tx_then ?_
    refine tr_seq ?_
    refine tr_region ?_
    refine tl_step rfl (oj_val (y_assign fe_c) ?_)
    refine tl_nil ?_
    refine tx_then ?_
    refine tr_seq ?_
    refine tr_block ?_
    refine tr_loop1 [9, 67, 68, 69, 70, 71, 72, 73, 74, 75, 76, 77, 78] (fun (s : Nat) => [(9, .int .i64 (s : Int))]) 0 (fun (s : Nat) => []) (fun (s : Nat) => s ≤ 31 ∧ (y[m - 1]'(by omega)) * 2 ^ s < 4294967296) (fun (s : Nat) => 40 - s) (0) (cov_cons (by first | rfl | exact v_int (by omega) | exact v_bool (by simp [*])) (cov_nil)) (fun w h => h) ?_ ?_
    · try dsimp only
      exact ⟨by omega, by simp; omega⟩
    intro s hp
    obtain ⟨hs, hys⟩ := hp
    refine tr_seq ?_
    refine tr_seq ?_
    refine tr_region ?_
    refine tl_step rfl (oj_val (y_move (fe_t rfl)) ?_)
    refine tl_step rfl (oj_val (y_move (fe_t rfl)) ?_)
    refine tl_step rfl (oj_val (y_len Try.underlying33 (fe_t rfl)) ?_)
    refine tl_step rfl (oj_val (y_dec (fe_t rfl) fe_c (by omega)) ?_)
    refine tl_step rfl (oj_val (y_index Try.underlying33 Try.sizeOf153 (fe_t rfl) (fe_t rfl) (rdl_out hr') (by rw [cU_len]; omega) (by decide) (by omega) (Nat.mul_one _)) ?_)
    refine tl_step rfl (oj_val (y_ld (v := .int .u32 (y[m - 1]'(by omega))) Try.isAgg153 (fe_t rfl) (rdl_out hr') (cU_get (by omega))) ?_)
    refine tl_step rfl (oj_val (y_move (fe_t rfl)) ?_)
    refine tl_step rfl (oj_val (y_as (y_shl (fe_t rfl) (fe_t rfl) (by omega)) (shl_u32 (by omega) hys hs)) ?_)
    refine tl_step rfl (oj_val (y_as (y_shr (fe_t rfl) fe_c (by decide)) (shr31 (Int.mul_nonneg (by omega) (by have := two_pos s; omega)))) ?_)
    refine tl_step rfl (oj_val (y_eq (fe_t rfl) fe_c) ?_)
    refine tl_nil ?_
    refine tx_then ?_
    refine tr_condp (fe_t rfl) (fun hq3 => ?_) (fun hq4 => ?_)
    · refine tr_skip ?_
      refine tx_then ?_
      refine tr_block ?_
      refine tr_region ?_
      refine tl_step rfl (oj_val (y_move (fe_t rfl)) ?_)
      refine tl_step rfl (oj_val (y_inc (fe_t rfl) fe_c (by omega)) ?_)
      refine tl_step rfl (oj_val (y_assign (fe_t rfl)) ?_)
      refine tl_nil ?_
      refine tx_in ?_
      apply tx_back1 (s + 1)
      · exact (cov_cons (by first | rfl | exact v_int (by omega) | exact v_bool (by simp [*])) (cov_nil))
      · repeat (first | exact over_nil | refine over_put rfl ?_ | refine over_drop rfl ?_)
      · exact fun w h => h.pick [] _ rfl (by decide)
      · obtain ⟨g1, g2⟩ := norm_step hy0 (show (y[m - 1]'(by omega)) * 2 ^ s < 2147483648 by omega)
        exact ⟨⟨by omega, g1⟩, by omega⟩
    · refine tr_exit ?_
      refine tx_then_exit ?_
      refine tx_then_exit ?_
      refine tx_in_exit ?_
      refine tx_then ?_
      refine tr_seq ?_
      refine tr_region ?_
      refine tl_step rfl (oj_val (y_move (fe_t rfl)) ?_)
      refine tl_step rfl (oj_val (y_len Try.underlying33 (fe_t rfl)) ?_)
      refine tl_step rfl (oj_val (y_assign (fe_t rfl)) ?_)
      refine tl_nil ?_
      refine tx_then ?_
      refine tr_seq ?_
      refine tb_draw 10 (sel _ []) (fun w h => h.sel _ rfl (by decide)) rfl ?_
      refine tb_float (i := 0) rfl (by kernel_rfl) rfl (wants_none rfl) (yq_of (y_move (fe_t rfl))) ?_
      refine tb_float (i := 1) rfl (by kernel_rfl) rfl (wants_none rfl) (yq_of (y_move (fe_t rfl))) ?_
      refine tb_float (i := 3) rfl (by kernel_rfl) rfl (wants_none rfl) (yq_of (y_move (fe_t rfl))) ?_
      refine tb_float (i := 5) rfl (by kernel_rfl) rfl (wants_none rfl) (yq_of (y_move (fe_t rfl))) ?_
      refine tb_float (i := 6) rfl (by kernel_rfl) rfl (wants_none rfl) (yq_of (y_move (fe_t rfl))) ?_
      refine tb_one2 (i := 2) rfl (by kernel_rfl) (by kernel_rfl) (wants_none rfl) (oj_call Try.call168 fe_f (fel_cons (fe_t rfl) (fel_cons (fe_t rfl) fel_nil)) (fun w' hS => shlL _ _ s y w' (Rd.below hr' hS.below) hy _ hm (by omega) (by omega)) (fun p1 hp1 => ⟨fun w h => h.pick [] _ rfl (by decide), ?_⟩))
      refine tb_float (i := 4) rfl (by kernel_rfl) rfl (wants_none rfl) (yq_of (y_cutH Try.underlying33 Try.sizeOf153 (fe_t rfl) (fe_t rfl) (by omega))) ?_
      refine tb_one2 (i := 7) rfl (by kernel_rfl) (by kernel_rfl) (wants_none rfl) (oj_call Try.call168 fe_f (fel_cons (fe_t rfl) (fel_cons (fe_t rfl) fel_nil)) (fun w' hS => shlL _ _ s x w' (Rd.below hr hS.below) hx _ hn (by omega) (by omega)) (fun p2 hp2 => ⟨fun w h => h.pick [] _ rfl (by decide), ?_⟩))
      refine tb_float (i := 8) rfl (by kernel_rfl) rfl (wants_none rfl) (yq_of (y_assign (fe_t rfl))) ?_
      refine tb_float (i := 9) rfl (by kernel_rfl) rfl (wants_none rfl) (yq_of (y_assign (fe_t rfl))) ?_
      refine tb_done (by kernel_rfl) ?_
      refine tx_then ?_
      refine tr_seq ?_
      obtain ⟨hpn1, hpl1, hpc1, _, hpd1, hpv1⟩ := hp1
      obtain ⟨hpn2, hpl2, hpc2, _, hpd2, hpv2⟩ := hp2
      rw [show s / 32 = 0 by omega, Nat.add_zero] at hpn1 hpn2
      have hys0 : 0 ≤ (y[m - 1]'(by omega)) * 2 ^ s := Int.mul_nonneg (by omega) (by have := two_pos s; omega)
      obtain ⟨hvv, hvl, hvt, htop⟩ := norm_v hy hm hm2 hs rfl hy0 hys (by omega) hpd1 (by omega) hpv1
      have hdv := hpd1.take m
      obtain ⟨v, hve⟩ : ∃ v, v = p1.ds.take m := ⟨_, rfl⟩
      refine tr_shrink 1 rfl (show m ≤ p1.n by omega) ?_
      rw [cU_take, ← hve]
      rw [← hve] at hvv hvl hdv
      simp only [← hve] at htop
      replace htop : 2147483648 ≤ v[m - 1]'(by omega) := htop
      have hks := k_start hx hn hmn hs hpd2 (by omega) hpv2 hvl hm2 hdv hvv htop
      have hdvl := dval_lt hdv
      rw [hvl, hvv] at hdvl
      refine tr_region ?_
      refine tl_step rfl (oj_val (y_move (fe_t rfl)) ?_)
      refine tl_step rfl (oj_val (y_as (b := ((n + 1 : Nat) : Int)) (y_len Try.underlying33 (fe_t rfl)) (by omega)) ?_)
      refine tl_step rfl (oj_make (n := n + 1) (z := (.int .u32 0)) (bytes := 4) Try.underlying33 (by kernel_rfl) (fe_t rfl) (fe_t rfl) rfl ⟨by omega, by decide⟩ (fun gov => ?_))
      refine tl_step rfl (oj_val (y_assign (fe_t rfl)) ?_)
      refine tl_nil ?_
      refine tx_then ?_
      refine tr_seq ?_
      refine tr_seq ?_
      refine tr_region ?_
      refine tl_step rfl (oj_val (y_move (fe_t rfl)) ?_)
      refine tl_step rfl (oj_val (y_as (b := ((n + 1 : Nat) : Int)) (y_len Try.underlying33 (fe_t rfl)) (by omega)) ?_)
      refine tl_step rfl (oj_val (y_move (fe_t rfl)) ?_)
      refine tl_step rfl (oj_val (y_as (b := ((n + 1 - m : Nat) : Int)) (y_sub (fe_t rfl) (fe_t rfl) (by omega)) (by omega)) ?_)
      refine tl_step rfl (oj_val (y_as (b := ((n + 1 - m : Nat) : Int) - 1) (y_sub (fe_t rfl) fe_c (by omega)) rfl) ?_)
      refine tl_step rfl (oj_val (y_assign (fe_t rfl)) ?_)
      refine tl_nil ?_
      refine tx_then ?_
      refine tr_block ?_
      refine tr_loop5 [14, 15, 16, 17, 18, 19, 20, 21, 22, 23, 24, 25, 97, 98, 99, 100, 101, 102, 103, 104, 105, 106, 107, 108, 109, 110, 111, 112, 113, 114, 115, 116, 117, 118, 119, 120, 121, 122, 123, 124, 125, 126, 127, 128, 129, 130, 131, 132, 133, 134, 135, 136, 137, 138, 139, 140, 141, 142, 143, 144, 145, 146, 147, 148, 149, 150, 151, 152, 153, 154, 155, 156, 157, 158, 159, 160, 161, 162, 163, 164, 165, 166, 167, 168, 169, 170, 171, 172, 173, 174, 175, 176, 177, 178, 179, 180, 181, 182, 183, 184, 185, 186, 187, 188, 189, 190, 191, 192, 193, 194, 195, 196, 197, 198, 199, 200, 201, 202, 203, 204, 205, 206, 207, 208, 209, 210, 211, 212, 213, 214, 215, 216, 217, 218, 219, 220, 221, 222, 223, 224, 225, 226, 227, 228, 229, 230, 231, 232, 233, 234, 235, 236, 237, 238, 239, 240, 241, 242, 243, 244, 245, 246, 247, 248, 249, 250, 251, 252, 253, 254, 255, 256, 257, 258, 259, 260, 261, 262, 263, 264, 265, 266, 267, 268, 269, 270, 271, 272, 273, 274, 275, 276] (fun (K : Nat) (us : List Int) (zs : List Int) (vxu : List Value) (vxz : List Value) => [(14, .int .i64 ((K : Int) - 1))]) 0 (fun (K : Nat) (us : List Int) (zs : List Int) (vxu : List Value) (vxz : List Value) => [(1, vec 153 1 (.slice p2.A p2.n p2.c) p2.n vxu), (0, vec 153 1 (.slice (some ⟨gov, 0, none⟩) (n + 1) (n + 1)) (n + 1) vxz)]) (fun (K : Nat) (us : List Int) (zs : List Int) (vxu : List Value) (vxz : List Value) => K ≤ n + 1 - m ∧ vxu = cU us ∧ vxz = cU zs ∧ us.length = n + 1 ∧ zs.length = n + 1 ∧ KInv (dval x * 2 ^ s) us zs v m K (dval y * 2 ^ s)) (fun (K : Nat) (us : List Int) (zs : List Int) (vxu : List Value) (vxz : List Value) => K) (n + 1 - m) (p2.ds) (List.replicate (n + 1) 0) (cU p2.ds) (List.replicate (n + 1) (.int .u32 0)) (cov_cons (by first | rfl | exact v_int (by omega) | exact v_bool (by simp [*])) (cov_nil)) (fun w h => h) ?_ ?_
      · try dsimp only
        exact ⟨Nat.le_refl _, rfl, by simp [cU], by omega, by simp, hks⟩
      intro K us zs vxu vxz hp
      obtain ⟨hK, hvxu, hvxz, hul, hzl, hki⟩ := hp
      refine tr_seq ?_
      refine tr_seq ?_
      refine tr_region ?_
      refine tl_step rfl (oj_val (y_move (fe_t rfl)) ?_)
      refine tl_step rfl (oj_val (y_geq (fe_t rfl) fe_c) ?_)
      refine tl_nil ?_
      refine tx_then ?_
      refine tr_condp (fe_t rfl) (fun hq5 => ?_) (fun hq6 => ?_)
      · refine tr_skip ?_
        refine tx_then ?_
        refine tr_seq ?_
        refine tr_block ?_
        refine tr_seq ?_
        obtain ⟨k, hkK⟩ : ∃ k, K = k + 1 := ⟨K - 1, by omega⟩
        subst hkK
        obtain ⟨W, hWe⟩ : ∃ W, dval (us.drop k) = W := ⟨_, rfl⟩
        have hW : Win us v m k (dval y * 2 ^ s) W := ⟨hki.du, hdv, hvl, hm2, by omega, hvv, hWe, hki.lt⟩
        have hV0 := hW.V0 (by omega)
        obtain ⟨a, b0, ha0, ha1, hb0, hb1, hWa, hVa⟩ := hW.lead (by omega) (by omega) (by omega) (by omega) (by omega)
        have hwh := hW.hi
        have hpp := pw_pos (m - 2)
        have hu2 := hki.du.get (k := k + m) (by omega)
        have hu1 := hki.du.get (k := k + m - 1) (by omega)
        have hu0 := hki.du.get (k := k + m - 2) (by omega)
        have hv2 := hdv.get (k := m - 2) (by omega)
        have hv1 := hdv.get (k := m - 1) (by omega)
        have hle := lead_le hpp ha0 hb1 hu1.1 hu0.1 hv2.2 hWa hVa hwh.2.2.2.2
        have hgs := guess_start hpp ha1 hb0 hu1 hu2.1 hu0 (by omega) hv2.1 hWa hVa hV0 hwh.2.2.2.1
        have hqb : ((us[k + m]'(by omega)) * 4294967296 + (us[k + m - 1]'(by omega))) / (v[m - 1]'(by omega)) ≤ ((us[k + m]'(by omega)) * 4294967296 + (us[k + m - 1]'(by omega))) := Int.ediv_le_self _ (by omega)
        have hrb : ((us[k + m]'(by omega)) * 4294967296 + (us[k + m - 1]'(by omega))) % (v[m - 1]'(by omega)) < (v[m - 1]'(by omega)) := Int.emod_lt_of_pos _ (by omega)
        refine tb_draw 18 (sel _ [0, 1, 2]) (fun w h => h.sel _ rfl (by decide)) rfl ?_
        refine tb_float (i := 0) rfl (by kernel_rfl) rfl (wants_none rfl) (yq_of (y_move (fe_t rfl))) ?_
        refine tb_float (i := 1) rfl (by kernel_rfl) rfl (wants_none rfl) (yq_of (y_as (b := ((k : Nat) : Int)) (y_move (fe_t rfl)) (by omega))) ?_
        refine tb_float (i := 2) rfl (by kernel_rfl) rfl (wants_none rfl) (yq_of (y_move (fe_t rfl))) ?_
        refine tb_float (i := 3) rfl (by kernel_rfl) rfl (wants_none rfl) (yq_of (y_as (b := ((k + m : Nat) : Int)) (y_add (fe_t rfl) (fe_t rfl) (by omega)) (by omega))) ?_
        refine tb_float (i := 4) rfl (by kernel_rfl) rfl (wants_none rfl) (yq_of (y_index Try.underlying33 Try.sizeOf153 (fe_t rfl) (fe_t rfl) (rdl_vec 1 rfl) (by first | (rw [hvx3, cU_len]; have := hab.len; omega) | (rw [hvx2, cU_len]; have := hms.len; omega) | (rw [List.length_set, hvx2, cU_len]; have := hms.len; omega) | (rw [hvxu, cU_len]; omega)) (by decide) (by omega) (Nat.mul_one _))) ?_
        refine tb_float (i := 5) rfl (by kernel_rfl) rfl (wants_none rfl) (yq_of (y_ld (v := .int .u32 (us[k + m]'(by omega))) Try.isAgg153 (fe_t rfl) (rdl_vec 1 rfl) (by rw [hvxu]; exact cU_get (by omega)))) ?_
        refine tb_float (i := 6) rfl (by kernel_rfl) rfl (wants_none rfl) (yq_of (y_convi Try.underlying153 Try.underlying41 (fe_t rfl) (IntWalk.u64_in _ (by omega)))) ?_
        refine tb_float (i := 7) rfl (by kernel_rfl) rfl (wants_none rfl) (yq_of (y_as (y_shl (fe_t rfl) fe_c (by decide)) (shl32 (by omega) (by omega)))) ?_
        refine tb_float (i := 8) rfl (by kernel_rfl) rfl (wants_none rfl) (yq_of (y_move (fe_t rfl))) ?_
        refine tb_float (i := 9) rfl (by kernel_rfl) rfl (wants_none rfl) (yq_of (y_as (b := ((k : Nat) : Int)) (y_move (fe_t rfl)) (by omega))) ?_
        refine tb_float (i := 10) rfl (by kernel_rfl) rfl (wants_none rfl) (yq_of (y_move (fe_t rfl))) ?_
        refine tb_float (i := 11) rfl (by kernel_rfl) rfl (wants_none rfl) (yq_of (y_as (b := ((k + m : Nat) : Int)) (y_add (fe_t rfl) (fe_t rfl) (by omega)) (by omega))) ?_
        refine tb_float (i := 12) rfl (by kernel_rfl) rfl (wants_none rfl) (yq_of (y_as (b := ((k + m - 1 : Nat) : Int)) (y_sub (fe_t rfl) fe_c (by omega)) (by omega))) ?_
        refine tb_float (i := 13) rfl (by kernel_rfl) rfl (wants_none rfl) (yq_of (y_index Try.underlying33 Try.sizeOf153 (fe_t rfl) (fe_t rfl) (rdl_vec 1 rfl) (by first | (rw [hvx3, cU_len]; have := hab.len; omega) | (rw [hvx2, cU_len]; have := hms.len; omega) | (rw [List.length_set, hvx2, cU_len]; have := hms.len; omega) | (rw [hvxu, cU_len]; omega)) (by decide) (by omega) (Nat.mul_one _))) ?_
        refine tb_float (i := 14) rfl (by kernel_rfl) rfl (wants_none rfl) (yq_of (y_ld (v := .int .u32 (us[k + m - 1]'(by omega))) Try.isAgg153 (fe_t rfl) (rdl_vec 1 rfl) (by rw [hvxu]; exact cU_get (by omega)))) ?_
        refine tb_float (i := 15) rfl (by kernel_rfl) rfl (wants_none rfl) (yq_of (y_convi Try.underlying153 Try.underlying41 (fe_t rfl) (IntWalk.u64_in _ (by omega)))) ?_
        refine tb_float (i := 16) rfl (by kernel_rfl) rfl (wants_none rfl) (yq_of (y_bits (.inr (.inl rfl)) (fe_t rfl) (fe_t rfl) (fun w => u64_orw _ _ ((us[k + m]'(by omega)) * 4294967296 + (us[k + m - 1]'(by omega))) ((or_dig hu2.1 hu2.2 hu1.1 hu1.2).trans (by omega)) w))) ?_
        refine tb_float (i := 17) rfl (by kernel_rfl) rfl (wants_none rfl) (yq_of (y_assign (fe_t rfl))) ?_
        refine tb_done (by kernel_rfl) ?_
        refine tx_then ?_
        refine tr_seq ?_
        refine tb_draw 18 (sel _ [0, 1, 2]) (fun w h => h.sel _ rfl (by decide)) rfl ?_
        refine tb_float (i := 0) rfl (by kernel_rfl) rfl (wants_none rfl) (yq_of (y_move (fe_t rfl))) ?_
        refine tb_float (i := 1) rfl (by kernel_rfl) rfl (wants_none rfl) (yq_of (y_move (fe_t rfl))) ?_
        refine tb_float (i := 2) rfl (by kernel_rfl) rfl (wants_none rfl) (yq_of (y_move (fe_t rfl))) ?_
        refine tb_float (i := 3) rfl (by kernel_rfl) rfl (wants_none rfl) (yq_of (y_dec (fe_t rfl) fe_c (by omega))) ?_
        refine tb_float (i := 4) rfl (by kernel_rfl) rfl (wants_none rfl) (yq_of (y_index Try.underlying33 Try.sizeOf153 (fe_t rfl) (fe_t rfl) (rdl_vec 2 rfl) (by rw [cU_len]; omega) (by decide) (by omega) (Nat.mul_one _))) ?_
        refine tb_float (i := 5) rfl (by kernel_rfl) rfl (wants_none rfl) (yq_of (y_ld (v := .int .u32 (v[m - 1]'(by omega))) Try.isAgg153 (fe_t rfl) (rdl_vec 2 rfl) (cU_get (by omega)))) ?_
        refine tb_float (i := 6) rfl (by kernel_rfl) rfl (wants_none rfl) (yq_of (y_convi Try.underlying153 Try.underlying41 (fe_t rfl) (IntWalk.u64_in _ (by omega)))) ?_
        refine tb_float (i := 7) rfl (by kernel_rfl) rfl (wants_none rfl) (yq_of (y_quok (fe_t rfl) (fe_t rfl) ⟨by omega, by omega⟩ (IntWalk.u64_in _ (by have := hgs.q0; omega)))) ?_
        refine tb_float (i := 8) rfl (by kernel_rfl) rfl (wants_none rfl) (yq_of (y_move (fe_t rfl))) ?_
        refine tb_float (i := 9) rfl (by kernel_rfl) rfl (wants_none rfl) (yq_of (y_move (fe_t rfl))) ?_
        refine tb_float (i := 10) rfl (by kernel_rfl) rfl (wants_none rfl) (yq_of (y_move (fe_t rfl))) ?_
        refine tb_float (i := 11) rfl (by kernel_rfl) rfl (wants_none rfl) (yq_of (y_dec (fe_t rfl) fe_c (by omega))) ?_
        refine tb_float (i := 12) rfl (by kernel_rfl) rfl (wants_none rfl) (yq_of (y_index Try.underlying33 Try.sizeOf153 (fe_t rfl) (fe_t rfl) (rdl_vec 2 rfl) (by rw [cU_len]; omega) (by decide) (by omega) (Nat.mul_one _))) ?_
        refine tb_float (i := 13) rfl (by kernel_rfl) rfl (wants_none rfl) (yq_of (y_ld (v := .int .u32 (v[m - 1]'(by omega))) Try.isAgg153 (fe_t rfl) (rdl_vec 2 rfl) (cU_get (by omega)))) ?_
        refine tb_float (i := 14) rfl (by kernel_rfl) rfl (wants_none rfl) (yq_of (y_convi Try.underlying153 Try.underlying41 (fe_t rfl) (IntWalk.u64_in _ (by omega)))) ?_
        refine tb_float (i := 15) rfl (by kernel_rfl) rfl (wants_none rfl) (yq_of (y_rem (fe_t rfl) (fe_t rfl) ⟨by omega, by omega⟩)) ?_
        refine tb_float (i := 16) rfl (by kernel_rfl) rfl (wants_none rfl) (yq_of (y_assign (fe_t rfl))) ?_
        refine tb_float (i := 17) rfl (by kernel_rfl) rfl (wants_none rfl) (yq_of (y_assign (fe_t rfl))) ?_
        refine tb_done (by kernel_rfl) ?_
        refine tx_then ?_
        refine tr_cut1 [16, 17, 134, 135, 136, 137, 138, 139, 140, 141, 142, 143, 144, 145, 146, 147, 148, 149, 150, 151, 152, 153, 154, 155, 156, 157, 158, 159, 160, 161, 162, 163, 164, 165, 166, 167, 168, 169, 170, 171] (fun (q : Int) => [(16, .int .u64 q)]) 0 (fun (q : Int) => []) (fun (q : Int) => q < 4294967296 ∧ q ≤ W / (dval y * 2 ^ s) + 1 ∧ W / (dval y * 2 ^ s) ≤ q ∧ 0 ≤ q) ?_ ?_
        · refine tr_block ?_
          refine tr_loop2 [16, 17, 134, 135, 136, 137, 138, 139, 140, 141, 142, 143, 144, 145, 146, 147, 148, 149, 150, 151, 152, 153, 154, 155, 156, 157, 158, 159, 160, 161, 162, 163, 164, 165, 166, 167, 168, 169, 170, 171] (fun (q : Int) (r : Int) => [(16, .int .u64 q), (17, .int .u64 r)]) 0 (fun (q : Int) (r : Int) => []) (fun (q : Int) (r : Int) => Guess W (dval y * 2 ^ s) ((us[k + m]'(by omega)) * 4294967296 + (us[k + m - 1]'(by omega))) (v[m - 1]'(by omega)) q r ∧ r < 4294967296 ∧ q ≤ 18446744073709551615) (fun (q : Int) (r : Int) => q.toNat) (((us[k + m]'(by omega)) * 4294967296 + (us[k + m - 1]'(by omega))) / (v[m - 1]'(by omega))) (((us[k + m]'(by omega)) * 4294967296 + (us[k + m - 1]'(by omega))) % (v[m - 1]'(by omega))) (cov_cons (by first | rfl | exact v_int (by omega) | exact v_bool (by simp [*])) (cov_cons (by first | rfl | exact v_int (by omega) | exact v_bool (by simp [*])) (cov_nil))) (fun w h => h) ?_ ?_
          · try dsimp only
            exact ⟨hgs, by omega, by omega⟩
          intro q r hp
          obtain ⟨hgu, hrB, hqB⟩ := hp
          have hq0 := hgu.q0
          have hr0 := hgu.r0
          refine tr_seq ?_
          refine tr_seq ?_
          refine tb_draw 25 (sel _ [0, 1, 2]) (fun w h => h.sel _ rfl (by decide)) rfl ?_
          refine tb_float (i := 0) rfl (by kernel_rfl) rfl (wants_none rfl) (yq_of (y_move (fe_t rfl))) ?_
          refine tb_float (i := 1) rfl (by kernel_rfl) rfl (wants_none rfl) (yq_of (y_as (y_shr (fe_t rfl) fe_c (by decide)) (shr32 hgu.q0))) ?_
          refine tb_float (i := 2) rfl (by kernel_rfl) rfl (wants_none rfl) (yq_of (y_neq (fe_t rfl) fe_c)) ?_
          refine tb_float (i := 3) rfl (by kernel_rfl) rfl (wants_none rfl) (yq_of (y_move (fe_t rfl))) ?_
          refine tb_splitp (d := 137) rfl (fun hq7 => ?_) (fun hq8 => ?_)
          · refine tb_skip (i := 4) rfl (by kernel_rfl) rfl (wants_f rfl rfl rfl rfl) ?_
            refine tb_skip (i := 5) rfl (by kernel_rfl) rfl (wants_f rfl rfl rfl rfl) ?_
            refine tb_skip (i := 6) rfl (by kernel_rfl) rfl (wants_f rfl rfl rfl rfl) ?_
            refine tb_skip (i := 7) rfl (by kernel_rfl) rfl (wants_f rfl rfl rfl rfl) ?_
            refine tb_skip (i := 8) rfl (by kernel_rfl) rfl (wants_f rfl rfl rfl rfl) ?_
            refine tb_skip (i := 9) rfl (by kernel_rfl) rfl (wants_f rfl rfl rfl rfl) ?_
            refine tb_skip (i := 10) rfl (by kernel_rfl) rfl (wants_f rfl rfl rfl rfl) ?_
            refine tb_skip (i := 11) rfl (by kernel_rfl) rfl (wants_f rfl rfl rfl rfl) ?_
            refine tb_skip (i := 12) rfl (by kernel_rfl) rfl (wants_f rfl rfl rfl rfl) ?_
            refine tb_skip (i := 13) rfl (by kernel_rfl) rfl (wants_f rfl rfl rfl rfl) ?_
            refine tb_skip (i := 14) rfl (by kernel_rfl) rfl (wants_f rfl rfl rfl rfl) ?_
            refine tb_skip (i := 15) rfl (by kernel_rfl) rfl (wants_f rfl rfl rfl rfl) ?_
            refine tb_skip (i := 16) rfl (by kernel_rfl) rfl (wants_f rfl rfl rfl rfl) ?_
            refine tb_skip (i := 17) rfl (by kernel_rfl) rfl (wants_f rfl rfl rfl rfl) ?_
            refine tb_skip (i := 18) rfl (by kernel_rfl) rfl (wants_f rfl rfl rfl rfl) ?_
            refine tb_skip (i := 19) rfl (by kernel_rfl) rfl (wants_f rfl rfl rfl rfl) ?_
            refine tb_skip (i := 20) rfl (by kernel_rfl) rfl (wants_f rfl rfl rfl rfl) ?_
            refine tb_skip (i := 21) rfl (by kernel_rfl) rfl (wants_f rfl rfl rfl rfl) ?_
            refine tb_skip (i := 22) rfl (by kernel_rfl) rfl (wants_f rfl rfl rfl rfl) ?_
            refine tb_skip (i := 23) rfl (by kernel_rfl) rfl (wants_f rfl rfl rfl rfl) ?_
            refine tb_float (i := 24) rfl (by kernel_rfl) rfl (wants_none rfl) (yq_of (y_pickt (fe_t rfl) fe_c)) ?_
            refine tb_done (by kernel_rfl) ?_
            refine tx_then ?_
            refine tr_condt (fe_t rfl) ?_
            refine tr_skip ?_
            refine tx_then ?_
            refine tr_block ?_
            refine tr_seq ?_
            obtain ⟨hg2, hq1⟩ := guess_step hpp ha1 hb0 hWa hVa hV0 hwh.2.2.2.2 hwh.2.2.2.1 (by omega) hgu (by first | exact .inl (by omega) | exact .inr (by omega))
            refine tr_region ?_
            refine tl_step rfl (oj_val (y_move (fe_t rfl)) ?_)
            refine tl_step rfl (oj_val (y_as (b := q - 1) (y_subk (fe_t rfl) fe_c) (IntWalk.u64_in _ (by omega))) ?_)
            refine tl_step rfl (oj_val (y_assign (fe_t rfl)) ?_)
            refine tl_nil ?_
            refine tx_then ?_
            refine tr_seq ?_
            refine tr_region ?_
            refine tl_step rfl (oj_val (y_move (fe_t rfl)) ?_)
            refine tl_step rfl (oj_val (y_move (fe_t rfl)) ?_)
            refine tl_step rfl (oj_val (y_move (fe_t rfl)) ?_)
            refine tl_step rfl (oj_val (y_dec (fe_t rfl) fe_c (by omega)) ?_)
            refine tl_step rfl (oj_val (y_index Try.underlying33 Try.sizeOf153 (fe_t rfl) (fe_t rfl) (rdl_vec 2 rfl) (by rw [cU_len]; omega) (by decide) (by omega) (Nat.mul_one _)) ?_)
            refine tl_step rfl (oj_val (y_ld (v := .int .u32 (v[m - 1]'(by omega))) Try.isAgg153 (fe_t rfl) (rdl_vec 2 rfl) (cU_get (by omega))) ?_)
            refine tl_step rfl (oj_val (y_convi Try.underlying153 Try.underlying41 (fe_t rfl) (IntWalk.u64_in _ (by omega))) ?_)
            refine tl_step rfl (oj_val (y_as (b := r + (v[m - 1]'(by omega))) (y_addk (fe_t rfl) (fe_t rfl)) (IntWalk.u64_in _ (by omega))) ?_)
            refine tl_step rfl (oj_val (y_assign (fe_t rfl)) ?_)
            refine tl_nil ?_
            refine tx_then ?_
            refine tr_seq ?_
            refine tr_region ?_
            refine tl_step rfl (oj_val (y_move (fe_t rfl)) ?_)
            refine tl_step rfl (oj_val (y_as (y_shr (fe_t rfl) fe_c (by decide)) (shr32 (by omega))) ?_)
            refine tl_step rfl (oj_val (y_neq (fe_t rfl) fe_c) ?_)
            refine tl_nil ?_
            refine tx_then ?_
            refine tr_condp (fe_t rfl) (fun hq9 => ?_) (fun hq10 => ?_)
            · refine tr_exit ?_
              refine tx_in_pass rfl ?_
              refine tx_then_exit ?_
              refine tx_in_exit ?_
              apply tx_back1 (q - 1)
              · exact (cov_cons (by first | rfl | exact v_int (by omega) | exact v_bool (by simp [*])) (cov_nil))
              · repeat (first | exact over_nil | refine over_put rfl ?_ | refine over_drop rfl ?_)
              · exact fun w h => h.pick [0, 1, 2] _ rfl (by decide)
              · obtain ⟨e1, e2⟩ := guess_end hpp ha0 hb1 hb0 hu0.1 hu1.2 hWa hVa hV0 hwh.2.2.2.2 (by omega) hv2 hle hg2 (.inr (by omega))
                exact ⟨e1, e2, hg2.ge, hg2.q0⟩
            · refine tr_skip ?_
              refine tx_in ?_
              apply tx_back2 (q - 1) (r + (v[m - 1]'(by omega)))
              · exact (cov_cons (by first | rfl | exact v_int (by omega) | exact v_bool (by simp [*])) (cov_cons (by first | rfl | exact v_int (by omega) | exact v_bool (by simp [*])) (cov_nil)))
              · repeat (first | exact over_nil | refine over_put rfl ?_ | refine over_drop rfl ?_)
              · exact fun w h => h.pick [0, 1, 2] _ rfl (by decide)
              · exact ⟨⟨hg2, by omega, by omega⟩, by omega⟩
          · have hqs : q < 4294967296 := by omega
            have hmu : 0 ≤ q * (v[m - 2]'(by omega)) ∧ q * (v[m - 2]'(by omega)) ≤ 4294967295 * 4294967295 := ⟨Int.mul_nonneg (by omega) (by omega), Int.mul_le_mul (by omega) (by omega) (by omega) (by omega)⟩
            refine tb_float (i := 4) rfl (by kernel_rfl) rfl (wants_t rfl rfl rfl) (yq_of (y_move (fe_t rfl))) ?_
            refine tb_float (i := 5) rfl (by kernel_rfl) rfl (wants_t rfl rfl rfl) (yq_of (y_move (fe_t rfl))) ?_
            refine tb_float (i := 6) rfl (by kernel_rfl) rfl (wants_t rfl rfl rfl) (yq_of (y_move (fe_t rfl))) ?_
            refine tb_float (i := 7) rfl (by kernel_rfl) rfl (wants_t rfl rfl rfl) (yq_of (y_as (b := ((m - 2 : Nat) : Int)) (y_sub (fe_t rfl) fe_c (by omega)) (by omega))) ?_
            refine tb_float (i := 8) rfl (by kernel_rfl) rfl (wants_t rfl rfl rfl) (yq_of (y_index Try.underlying33 Try.sizeOf153 (fe_t rfl) (fe_t rfl) (rdl_vec 2 rfl) (by rw [cU_len]; omega) (by decide) (by omega) (Nat.mul_one _))) ?_
            refine tb_float (i := 9) rfl (by kernel_rfl) rfl (wants_t rfl rfl rfl) (yq_of (y_ld (v := .int .u32 (v[m - 2]'(by omega))) Try.isAgg153 (fe_t rfl) (rdl_vec 2 rfl) (cU_get (by omega)))) ?_
            refine tb_float (i := 10) rfl (by kernel_rfl) rfl (wants_t rfl rfl rfl) (yq_of (y_convi Try.underlying153 Try.underlying41 (fe_t rfl) (IntWalk.u64_in _ (by omega)))) ?_
            refine tb_float (i := 11) rfl (by kernel_rfl) rfl (wants_t rfl rfl rfl) (yq_of (y_as (b := q * (v[m - 2]'(by omega))) (y_mulk (fe_t rfl) (fe_t rfl)) (IntWalk.u64_in _ (by omega)))) ?_
            refine tb_float (i := 12) rfl (by kernel_rfl) rfl (wants_t rfl rfl rfl) (yq_of (y_move (fe_t rfl))) ?_
            refine tb_float (i := 13) rfl (by kernel_rfl) rfl (wants_t rfl rfl rfl) (yq_of (y_as (y_shl (fe_t rfl) fe_c (by decide)) (shl32 hgu.r0 (by omega)))) ?_
            refine tb_float (i := 14) rfl (by kernel_rfl) rfl (wants_t rfl rfl rfl) (yq_of (y_move (fe_t rfl))) ?_
            refine tb_float (i := 15) rfl (by kernel_rfl) rfl (wants_t rfl rfl rfl) (yq_of (y_as (b := ((k : Nat) : Int)) (y_move (fe_t rfl)) (by omega))) ?_
            refine tb_float (i := 16) rfl (by kernel_rfl) rfl (wants_t rfl rfl rfl) (yq_of (y_move (fe_t rfl))) ?_
            refine tb_float (i := 17) rfl (by kernel_rfl) rfl (wants_t rfl rfl rfl) (yq_of (y_as (b := ((k + m : Nat) : Int)) (y_add (fe_t rfl) (fe_t rfl) (by omega)) (by omega))) ?_
            refine tb_float (i := 18) rfl (by kernel_rfl) rfl (wants_t rfl rfl rfl) (yq_of (y_as (b := ((k + m - 2 : Nat) : Int)) (y_sub (fe_t rfl) fe_c (by omega)) (by omega))) ?_
            refine tb_float (i := 19) rfl (by kernel_rfl) rfl (wants_t rfl rfl rfl) (yq_of (y_index Try.underlying33 Try.sizeOf153 (fe_t rfl) (fe_t rfl) (rdl_vec 1 rfl) (by first | (rw [hvx3, cU_len]; have := hab.len; omega) | (rw [hvx2, cU_len]; have := hms.len; omega) | (rw [List.length_set, hvx2, cU_len]; have := hms.len; omega) | (rw [hvxu, cU_len]; omega)) (by decide) (by omega) (Nat.mul_one _))) ?_
            refine tb_float (i := 20) rfl (by kernel_rfl) rfl (wants_t rfl rfl rfl) (yq_of (y_ld (v := .int .u32 (us[k + m - 2]'(by omega))) Try.isAgg153 (fe_t rfl) (rdl_vec 1 rfl) (by rw [hvxu]; exact cU_get (by omega)))) ?_
            refine tb_float (i := 21) rfl (by kernel_rfl) rfl (wants_t rfl rfl rfl) (yq_of (y_convi Try.underlying153 Try.underlying41 (fe_t rfl) (IntWalk.u64_in _ (by omega)))) ?_
            refine tb_float (i := 22) rfl (by kernel_rfl) rfl (wants_t rfl rfl rfl) (yq_of (y_bits (.inr (.inl rfl)) (fe_t rfl) (fe_t rfl) (fun w => u64_orw _ _ (r * 4294967296 + (us[k + m - 2]'(by omega))) ((or_dig hgu.r0 hrB hu0.1 hu0.2).trans (by omega)) w))) ?_
            refine tb_float (i := 23) rfl (by kernel_rfl) rfl (wants_t rfl rfl rfl) (yq_of (y_gtr (fe_t rfl) (fe_t rfl))) ?_
            refine tb_float (i := 24) rfl (by kernel_rfl) rfl (wants_none rfl) (yq_of (y_pickf (fe_t rfl) (fe_t rfl))) ?_
            refine tb_done (by kernel_rfl) ?_
            refine tx_then ?_
            refine tr_condp (fe_t rfl) (fun hq11 => ?_) (fun hq12 => ?_)
            · refine tr_skip ?_
              refine tx_then ?_
              refine tr_block ?_
              refine tr_seq ?_
              obtain ⟨hg2, hq1⟩ := guess_step hpp ha1 hb0 hWa hVa hV0 hwh.2.2.2.2 hwh.2.2.2.1 (by omega) hgu (by first | exact .inl (by omega) | exact .inr (by omega))
              refine tr_region ?_
              refine tl_step rfl (oj_val (y_move (fe_t rfl)) ?_)
              refine tl_step rfl (oj_val (y_as (b := q - 1) (y_subk (fe_t rfl) fe_c) (IntWalk.u64_in _ (by omega))) ?_)
              refine tl_step rfl (oj_val (y_assign (fe_t rfl)) ?_)
              refine tl_nil ?_
              refine tx_then ?_
              refine tr_seq ?_
              refine tr_region ?_
              refine tl_step rfl (oj_val (y_move (fe_t rfl)) ?_)
              refine tl_step rfl (oj_val (y_move (fe_t rfl)) ?_)
              refine tl_step rfl (oj_val (y_move (fe_t rfl)) ?_)
              refine tl_step rfl (oj_val (y_dec (fe_t rfl) fe_c (by omega)) ?_)
              refine tl_step rfl (oj_val (y_index Try.underlying33 Try.sizeOf153 (fe_t rfl) (fe_t rfl) (rdl_vec 2 rfl) (by rw [cU_len]; omega) (by decide) (by omega) (Nat.mul_one _)) ?_)
              refine tl_step rfl (oj_val (y_ld (v := .int .u32 (v[m - 1]'(by omega))) Try.isAgg153 (fe_t rfl) (rdl_vec 2 rfl) (cU_get (by omega))) ?_)
              refine tl_step rfl (oj_val (y_convi Try.underlying153 Try.underlying41 (fe_t rfl) (IntWalk.u64_in _ (by omega))) ?_)
              refine tl_step rfl (oj_val (y_as (b := r + (v[m - 1]'(by omega))) (y_addk (fe_t rfl) (fe_t rfl)) (IntWalk.u64_in _ (by omega))) ?_)
              refine tl_step rfl (oj_val (y_assign (fe_t rfl)) ?_)
              refine tl_nil ?_
              refine tx_then ?_
              refine tr_seq ?_
              refine tr_region ?_
              refine tl_step rfl (oj_val (y_move (fe_t rfl)) ?_)
              refine tl_step rfl (oj_val (y_as (y_shr (fe_t rfl) fe_c (by decide)) (shr32 (by omega))) ?_)
              refine tl_step rfl (oj_val (y_neq (fe_t rfl) fe_c) ?_)
              refine tl_nil ?_
              refine tx_then ?_
              refine tr_condp (fe_t rfl) (fun hq13 => ?_) (fun hq14 => ?_)
              · refine tr_exit ?_
                refine tx_in_pass rfl ?_
                refine tx_then_exit ?_
                refine tx_in_exit ?_
                apply tx_back1 (q - 1)
                · exact (cov_cons (by first | rfl | exact v_int (by omega) | exact v_bool (by simp [*])) (cov_nil))
                · repeat (first | exact over_nil | refine over_put rfl ?_ | refine over_drop rfl ?_)
                · exact fun w h => h.pick [0, 1, 2] _ rfl (by decide)
                · obtain ⟨e1, e2⟩ := guess_end hpp ha0 hb1 hb0 hu0.1 hu1.2 hWa hVa hV0 hwh.2.2.2.2 (by omega) hv2 hle hg2 (.inr (by omega))
                  exact ⟨e1, e2, hg2.ge, hg2.q0⟩
              · refine tr_skip ?_
                refine tx_in ?_
                apply tx_back2 (q - 1) (r + (v[m - 1]'(by omega)))
                · exact (cov_cons (by first | rfl | exact v_int (by omega) | exact v_bool (by simp [*])) (cov_cons (by first | rfl | exact v_int (by omega) | exact v_bool (by simp [*])) (cov_nil)))
                · repeat (first | exact over_nil | refine over_put rfl ?_ | refine over_drop rfl ?_)
                · exact fun w h => h.pick [0, 1, 2] _ rfl (by decide)
                · exact ⟨⟨hg2, by omega, by omega⟩, by omega⟩
            · refine tr_exit ?_
              refine tx_then_exit ?_
              refine tx_then_exit ?_
              refine tx_in_exit ?_
              apply tx_back1 (q)
              · exact (cov_cons (by first | rfl | exact v_int (by omega) | exact v_bool (by simp [*])) (cov_nil))
              · repeat (first | exact over_nil | refine over_put rfl ?_ | refine over_drop rfl ?_)
              · exact fun w h => h.pick [0, 1, 2] _ rfl (by decide)
              · obtain ⟨e1, e2⟩ := guess_end hpp ha0 hb1 hb0 hu0.1 hu1.2 hWa hVa hV0 hwh.2.2.2.2 (by omega) hv2 hle hgu (.inl ⟨by omega, by omega⟩)
                exact ⟨e1, e2, hgu.ge, hgu.q0⟩
        · intro q hp
          obtain ⟨q1, q2, q3, q0⟩ := hp
          refine tr_seq ?_
          refine tr_region ?_
          refine tl_step rfl (oj_val (y_assign fe_c) ?_)
          refine tl_step rfl (oj_val (y_assign fe_c) ?_)
          refine tl_nil ?_
          refine tx_then ?_
          refine tr_seq ?_
          refine tr_seq ?_
          refine tr_region ?_
          refine tl_step rfl (oj_val (y_move (fe_t rfl)) ?_)
          refine tl_step rfl (oj_val (y_len Try.underlying33 (fe_t rfl)) ?_)
          refine tl_step rfl (oj_val (y_move fe_c) ?_)
          refine tl_nil ?_
          refine tx_then ?_
          refine tr_block ?_
          refine tr_loop5 [18, 19, 20, 21, 22, 174, 175, 176, 177, 178, 179, 180, 181, 182, 183, 184, 185, 186, 187, 188, 189, 190, 191, 192, 193, 194, 195, 196, 197, 198, 199, 200, 201, 202, 203, 204, 205, 206, 207, 208, 209] (fun (i : Nat) (us2 : List Int) (vx2 : List Value) (c : Int) (b : Int) => [(174, .int .i64 (i : Int)), (18, .int .u64 c), (19, .int .u64 b)]) 0 (fun (i : Nat) (us2 : List Int) (vx2 : List Value) (c : Int) (b : Int) => [(1, vec 153 1 (.slice p2.A p2.n p2.c) p2.n vx2)]) (fun (i : Nat) (us2 : List Int) (vx2 : List Value) (c : Int) (b : Int) => i ≤ m ∧ vx2 = cU us2 ∧ MsInv us us2 v k i q c b) (fun (i : Nat) (us2 : List Int) (vx2 : List Value) (c : Int) (b : Int) => m - i) (0) (us) (vxu) (0) (0) (cov_cons (by first | rfl | exact v_int (by omega) | exact v_bool (by simp [*])) (cov_cons (by first | rfl | exact v_int (by omega) | exact v_bool (by simp [*])) (cov_cons (by first | rfl | exact v_int (by omega) | exact v_bool (by simp [*])) (cov_nil)))) (fun w h => h) ?_ ?_
          · try dsimp only
            exact ⟨by omega, hvxu, ms_start hki.du⟩
          intro i us2 vx2 c b hp
          obtain ⟨hi, hvx2, hms⟩ := hp
          have hmc := hms.c0
          have hmb := hms.b0
          refine tr_seq ?_
          refine tr_region ?_
          refine tl_step rfl (oj_val (y_lss (fe_t rfl) (fe_t rfl)) ?_)
          refine tl_nil ?_
          refine tx_then ?_
          refine tr_seq ?_
          refine tr_condp (fe_t rfl) (fun hq15 => ?_) (fun hq16 => ?_)
          · refine tr_skip ?_
            refine tx_then ?_
            refine tr_seq ?_
            refine tr_block ?_
            refine tr_seq ?_
            refine tr_region ?_
            refine tl_step rfl (oj_val (y_move (fe_t rfl)) ?_)
            refine tl_step rfl (oj_val (y_index Try.underlying33 Try.sizeOf153 (fe_t rfl) (fe_t rfl) (rdl_vec 2 rfl) (by rw [cU_len]; omega) (by decide) (by omega) (Nat.mul_one _)) ?_)
            refine tl_step rfl (oj_val (y_ld (v := .int .u32 (v[i]'(by omega))) Try.isAgg153 (fe_t rfl) (rdl_vec 2 rfl) (cU_get (by omega))) ?_)
            refine tl_step rfl (oj_val (y_assign (fe_t rfl)) ?_)
            refine tl_step rfl (oj_val (y_assign (fe_t rfl)) ?_)
            refine tl_nil ?_
            refine tx_then ?_
            refine tr_seq ?_
            have hvi := hdv.get (k := i) (by omega)
            have hmu : 0 ≤ q * (v[i]'(by omega)) ∧ q * (v[i]'(by omega)) ≤ 4294967295 * 4294967295 := ⟨Int.mul_nonneg q0 hvi.1, Int.mul_le_mul (by omega) (by omega) hvi.1 (by omega)⟩
            obtain ⟨t0, t1, w0, w1, hnx⟩ := ms_step hms hdv (i := i) (by omega) (by omega) ⟨q0, q1⟩ rfl rfl
            refine tr_region ?_
            refine tl_step rfl (oj_val (y_move (fe_t rfl)) ?_)
            refine tl_step rfl (oj_val (y_move (fe_t rfl)) ?_)
            refine tl_step rfl (oj_val (y_move (fe_t rfl)) ?_)
            refine tl_step rfl (oj_val (y_convi Try.underlying153 Try.underlying41 (fe_t rfl) (IntWalk.u64_in _ (by omega))) ?_)
            refine tl_step rfl (oj_val (y_as (b := q * (v[i]'(by omega))) (y_mulk (fe_t rfl) (fe_t rfl)) (IntWalk.u64_in _ (by omega))) ?_)
            refine tl_step rfl (oj_val (y_as (b := (c + q * (v[i]'(by omega)))) (y_addk (fe_t rfl) (fe_t rfl)) (IntWalk.u64_in _ (by omega))) ?_)
            refine tl_step rfl (oj_val (y_assign (fe_t rfl)) ?_)
            refine tl_nil ?_
            refine tx_then ?_
            refine tr_seq ?_
            have hui := hki.du.get (k := k + i) (by omega)
            refine tr_region ?_
            refine tl_step rfl (oj_val (y_move (fe_t rfl)) ?_)
            refine tl_step rfl (oj_val (y_as (b := ((k : Nat) : Int)) (y_move (fe_t rfl)) (by omega)) ?_)
            refine tl_step rfl (oj_val (y_move (fe_t rfl)) ?_)
            refine tl_step rfl (oj_val (y_as (b := ((k + i : Nat) : Int)) (y_add (fe_t rfl) (fe_t rfl) (by omega)) (by omega)) ?_)
            refine tl_step rfl (oj_val (y_index Try.underlying33 Try.sizeOf153 (fe_t rfl) (fe_t rfl) (rdl_vec 1 rfl) (by first | (rw [hvx3, cU_len]; have := hab.len; omega) | (rw [hvx2, cU_len]; have := hms.len; omega) | (rw [List.length_set, hvx2, cU_len]; have := hms.len; omega) | (rw [hvxu, cU_len]; omega)) (by decide) (by omega) (Nat.mul_one _)) ?_)
            refine tl_step rfl (oj_val (y_ld (v := .int .u32 (us[k + i]'(by omega))) Try.isAgg153 (fe_t rfl) (rdl_vec 1 rfl) (by rw [hvx2, ← hms.same (k + i) (by omega) (by have := hms.len; omega) (by omega)]; exact cU_get (by have := hms.len; omega))) ?_)
            refine tl_step rfl (oj_val (y_convi Try.underlying153 Try.underlying41 (fe_t rfl) (IntWalk.u64_in _ (by omega))) ?_)
            refine tl_step rfl (oj_val (y_move (fe_t rfl)) ?_)
            refine tl_step rfl (oj_val (y_as (y_conv Try.underlying41 Try.underlying153 (fe_t rfl)) (wrap_lo _)) ?_)
            refine tl_step rfl (oj_val (y_convi Try.underlying153 Try.underlying41 (fe_t rfl) (IntWalk.u64_in _ (by omega))) ?_)
            refine tl_step rfl (oj_val (y_as (y_subk (fe_t rfl) (fe_t rfl)) (wrap1 _)) ?_)
            refine tl_step rfl (oj_val (y_move (fe_t rfl)) ?_)
            refine tl_step rfl (oj_val (y_as (y_subk (fe_t rfl) (fe_t rfl)) (wrap3 _ _)) ?_)
            refine tl_step rfl (oj_val (y_assign (fe_t rfl)) ?_)
            refine tl_nil ?_
            refine tx_then ?_
            refine tr_seq ?_
            refine tr_region ?_
            refine tl_step rfl (oj_val (y_move (fe_t rfl)) ?_)
            refine tl_step rfl (oj_val (y_as (b := ((k : Nat) : Int)) (y_move (fe_t rfl)) (by omega)) ?_)
            refine tl_step rfl (oj_val (y_move (fe_t rfl)) ?_)
            refine tl_step rfl (oj_val (y_as (b := ((k + i : Nat) : Int)) (y_add (fe_t rfl) (fe_t rfl) (by omega)) (by omega)) ?_)
            refine tl_step rfl (oj_val (y_move (fe_t rfl)) ?_)
            refine tl_step rfl (oj_val (y_as (y_conv Try.underlying41 Try.underlying153 (fe_t rfl)) (less_lo _)) ?_)
            refine tl_step rfl (oj_val (y_index Try.underlying33 Try.sizeOf153 (fe_t rfl) (fe_t rfl) (rdl_vec 1 rfl) (by first | (rw [hvx3, cU_len]; have := hab.len; omega) | (rw [hvx2, cU_len]; have := hms.len; omega) | (rw [List.length_set, hvx2, cU_len]; have := hms.len; omega) | (rw [hvxu, cU_len]; omega)) (by decide) (by omega) (Nat.mul_one _)) ?_)
            refine tl_step rfl (oj_storeE1 (i := 1) Try.sizeOf153 (fe_t rfl) (fe_t rfl) rfl rfl rfl (by omega) (?_))
            refine tl_nil ?_
            refine tx_then ?_
            refine tr_seq ?_
            refine tr_region ?_
            refine tl_step rfl (oj_val (y_move (fe_t rfl)) ?_)
            refine tl_step rfl (oj_val (y_as (y_shr (fe_t rfl) fe_c (by decide)) (less_hi (by omega) (by omega))) ?_)
            refine tl_step rfl (oj_val (y_assign (fe_t rfl)) ?_)
            refine tl_nil ?_
            refine tx_then ?_
            refine tr_region ?_
            refine tl_step rfl (oj_val (y_move (fe_t rfl)) ?_)
            refine tl_step rfl (oj_val (y_as (y_shr (fe_t rfl) fe_c (by decide)) (shr32 t0)) ?_)
            refine tl_step rfl (oj_val (y_assign (fe_t rfl)) ?_)
            refine tl_nil ?_
            refine tx_in ?_
            refine tx_then ?_
            refine tr_region ?_
            refine tl_step rfl (oj_val (y_inc (fe_t rfl) fe_c (by omega)) ?_)
            refine tl_step rfl (oj_val (y_move (fe_t rfl)) ?_)
            refine tl_nil ?_
            apply tx_back5 (i + 1) (us2.set (k + i) (((us[k + i]'(by omega)) - (c + q * (v[i]'(by omega))) % 4294967296 - b) % 4294967296)) (_) ((c + q * (v[i]'(by omega))) / 4294967296) ((if ((us[k + i]'(by omega)) - (c + q * (v[i]'(by omega))) % 4294967296 - b) < 0 then 1 else 0))
            · exact (cov_cons (by first | rfl | exact v_int (by omega) | exact v_bool (by simp [*])) (cov_cons (by first | rfl | exact v_int (by omega) | exact v_bool (by simp [*])) (cov_cons (by first | rfl | exact v_int (by omega) | exact v_bool (by simp [*])) (cov_nil))))
            · repeat (first | exact over_nil | refine over_put rfl ?_ | refine over_drop rfl ?_)
            · exact fun w h => h.pick [0, 1, 2] _ rfl (by decide)
            · exact ⟨⟨by omega, by rw [hvx2, cU, cU, List.map_set], hnx⟩, by omega⟩
          · refine tr_exit ?_
            refine tx_then_exit ?_
            refine tx_then_exit ?_
            refine tx_in_exit ?_
            refine tx_then ?_
            refine tr_seq ?_
            obtain rfl : m = i := by omega
            obtain ⟨w0, w1, ud, hud, hudl, hudd, hsame, hval⟩ := ms_top hms hvl (by omega) rfl
            refine tr_region ?_
            refine tl_step rfl (oj_val (y_move (fe_t rfl)) ?_)
            refine tl_step rfl (oj_val (y_as (b := ((k : Nat) : Int)) (y_move (fe_t rfl)) (by omega)) ?_)
            refine tl_step rfl (oj_val (y_move (fe_t rfl)) ?_)
            refine tl_step rfl (oj_val (y_as (b := ((k + m : Nat) : Int)) (y_add (fe_t rfl) (fe_t rfl) (by omega)) (by omega)) ?_)
            refine tl_step rfl (oj_val (y_index Try.underlying33 Try.sizeOf153 (fe_t rfl) (fe_t rfl) (rdl_vec 1 rfl) (by first | (rw [hvx3, cU_len]; have := hab.len; omega) | (rw [hvx2, cU_len]; have := hms.len; omega) | (rw [List.length_set, hvx2, cU_len]; have := hms.len; omega) | (rw [hvxu, cU_len]; omega)) (by decide) (by omega) (Nat.mul_one _)) ?_)
            refine tl_step rfl (oj_val (y_ld (v := .int .u32 (us[k + m]'(by omega))) Try.isAgg153 (fe_t rfl) (rdl_vec 1 rfl) (by rw [hvx2, ← hms.same (k + m) (by omega) (by have := hms.len; omega) (by omega)]; exact cU_get (by have := hms.len; omega))) ?_)
            refine tl_step rfl (oj_val (y_convi Try.underlying153 Try.underlying41 (fe_t rfl) (IntWalk.u64_in _ (by omega))) ?_)
            refine tl_step rfl (oj_val (y_move (fe_t rfl)) ?_)
            refine tl_step rfl (oj_val (y_as (y_subk (fe_t rfl) (fe_t rfl)) (wrap1 _)) ?_)
            refine tl_step rfl (oj_val (y_move (fe_t rfl)) ?_)
            refine tl_step rfl (oj_val (y_as (y_subk (fe_t rfl) (fe_t rfl)) (wrap3 _ _)) ?_)
            refine tl_step rfl (oj_val (y_assign (fe_t rfl)) ?_)
            refine tl_nil ?_
            refine tx_then ?_
            refine tr_seq ?_
            refine tr_region ?_
            refine tl_step rfl (oj_val (y_move (fe_t rfl)) ?_)
            refine tl_step rfl (oj_val (y_as (b := ((k : Nat) : Int)) (y_move (fe_t rfl)) (by omega)) ?_)
            refine tl_step rfl (oj_val (y_move (fe_t rfl)) ?_)
            refine tl_step rfl (oj_val (y_as (b := ((k + m : Nat) : Int)) (y_add (fe_t rfl) (fe_t rfl) (by omega)) (by omega)) ?_)
            refine tl_step rfl (oj_val (y_move (fe_t rfl)) ?_)
            refine tl_step rfl (oj_val (y_as (y_conv Try.underlying41 Try.underlying153 (fe_t rfl)) (less_lo _)) ?_)
            refine tl_step rfl (oj_val (y_index Try.underlying33 Try.sizeOf153 (fe_t rfl) (fe_t rfl) (rdl_vec 1 rfl) (by first | (rw [hvx3, cU_len]; have := hab.len; omega) | (rw [hvx2, cU_len]; have := hms.len; omega) | (rw [List.length_set, hvx2, cU_len]; have := hms.len; omega) | (rw [hvxu, cU_len]; omega)) (by decide) (by omega) (Nat.mul_one _)) ?_)
            refine tl_step rfl (oj_storeE1 (i := 1) Try.sizeOf153 (fe_t rfl) (fe_t rfl) rfl rfl rfl (by omega) (?_))
            refine tl_nil ?_
            refine tx_then ?_
            refine tr_seq ?_
            refine tr_seq ?_
            refine tr_region ?_
            refine tl_step rfl (oj_val (y_move (fe_t rfl)) ?_)
            refine tl_step rfl (oj_val (y_as (y_shr (fe_t rfl) fe_c (by decide)) (less_hi (by omega) (by omega))) ?_)
            refine tl_step rfl (oj_val (y_eq (fe_t rfl) fe_c) ?_)
            refine tl_nil ?_
            refine tx_then ?_
            refine tr_condp (fe_t rfl) (fun hq17 => ?_) (fun hq18 => ?_)
            · have hwn : ((us[k + m]'(by omega)) - c - b) < 0 := by omega
              have hq1 := ms_over hW hV0 q2 hudl hudd hsame (by rw [hvv] at hval ⊢; exact hval) hwn
              have hqn : 0 ≤ W / (dval y * 2 ^ s) := Int.ediv_nonneg hwh.2.2.2.1 (by omega)
              refine tr_seq ?_
              refine tr_region ?_
              refine tl_step rfl (oj_val (y_move (fe_t rfl)) ?_)
              refine tl_step rfl (oj_val (y_as (b := q - 1) (y_subk (fe_t rfl) fe_c) (IntWalk.u64_in _ (by omega))) ?_)
              refine tl_step rfl (oj_val (y_assign (fe_t rfl)) ?_)
              refine tl_nil ?_
              refine tx_then ?_
              refine tr_seq ?_
              refine tr_region ?_
              refine tl_step rfl (oj_val (y_assign fe_c) ?_)
              refine tl_nil ?_
              refine tx_then ?_
              refine tr_seq ?_
              refine tr_seq ?_
              refine tr_region ?_
              refine tl_step rfl (oj_val (y_move (fe_t rfl)) ?_)
              refine tl_step rfl (oj_val (y_len Try.underlying33 (fe_t rfl)) ?_)
              refine tl_step rfl (oj_val (y_move fe_c) ?_)
              refine tl_nil ?_
              refine tx_then ?_
              refine tr_block ?_
              refine tr_loop4 [18, 24, 25, 235, 236, 237, 238, 239, 240, 241, 242, 243, 244, 245, 246, 247, 248, 249, 250, 251, 252, 253, 254, 255, 256, 257, 258, 259, 260, 261] (fun (i : Nat) (ut : List Int) (vx3 : List Value) (c : Int) => [(235, .int .i64 (i : Int)), (18, .int .u64 c)]) 0 (fun (i : Nat) (ut : List Int) (vx3 : List Value) (c : Int) => [(1, vec 153 1 (.slice p2.A p2.n p2.c) p2.n vx3)]) (fun (i : Nat) (ut : List Int) (vx3 : List Value) (c : Int) => i ≤ m ∧ vx3 = cU ut ∧ AbInv ud ut v k i c) (fun (i : Nat) (ut : List Int) (vx3 : List Value) (c : Int) => m - i) (0) (ud) (_) (0) (cov_cons (by first | rfl | exact v_int (by omega) | exact v_bool (by simp [*])) (cov_cons (by first | rfl | exact v_int (by omega) | exact v_bool (by simp [*])) (cov_nil))) (fun w h => h) ?_ ?_
              · try dsimp only
                exact ⟨by omega, by rw [hvx2]; exact cU_set hud, ab_start hudd⟩
              intro i ut vx3 c hp
              obtain ⟨hi, hvx3, hab⟩ := hp
              have hac := hab.c0
              refine tr_seq ?_
              refine tr_region ?_
              refine tl_step rfl (oj_val (y_lss (fe_t rfl) (fe_t rfl)) ?_)
              refine tl_nil ?_
              refine tx_then ?_
              refine tr_seq ?_
              refine tr_condp (fe_t rfl) (fun hq19 => ?_) (fun hq20 => ?_)
              · refine tr_skip ?_
                refine tx_then ?_
                refine tr_seq ?_
                refine tr_block ?_
                refine tr_seq ?_
                refine tr_region ?_
                refine tl_step rfl (oj_val (y_move (fe_t rfl)) ?_)
                refine tl_step rfl (oj_val (y_index Try.underlying33 Try.sizeOf153 (fe_t rfl) (fe_t rfl) (rdl_vec 2 rfl) (by rw [cU_len]; omega) (by decide) (by omega) (Nat.mul_one _)) ?_)
                refine tl_step rfl (oj_val (y_ld (v := .int .u32 (v[i]'(by omega))) Try.isAgg153 (fe_t rfl) (rdl_vec 2 rfl) (cU_get (by omega))) ?_)
                refine tl_step rfl (oj_val (y_assign (fe_t rfl)) ?_)
                refine tl_step rfl (oj_val (y_assign (fe_t rfl)) ?_)
                refine tl_nil ?_
                refine tx_then ?_
                refine tr_seq ?_
                have hvi := hdv.get (k := i) (by omega)
                have hui := hudd.get (k := k + i) (by omega)
                obtain ⟨t0, t1, hnx⟩ := ab_step hab hdv (i := i) (by omega) (by omega) rfl
                refine tr_region ?_
                refine tl_step rfl (oj_val (y_move (fe_t rfl)) ?_)
                refine tl_step rfl (oj_val (y_move (fe_t rfl)) ?_)
                refine tl_step rfl (oj_val (y_as (b := ((k : Nat) : Int)) (y_move (fe_t rfl)) (by omega)) ?_)
                refine tl_step rfl (oj_val (y_move (fe_t rfl)) ?_)
                refine tl_step rfl (oj_val (y_as (b := ((k + i : Nat) : Int)) (y_add (fe_t rfl) (fe_t rfl) (by omega)) (by omega)) ?_)
                refine tl_step rfl (oj_val (y_index Try.underlying33 Try.sizeOf153 (fe_t rfl) (fe_t rfl) (rdl_vec 1 rfl) (by first | (rw [hvx3, cU_len]; have := hab.len; omega) | (rw [hvx2, cU_len]; have := hms.len; omega) | (rw [List.length_set, hvx2, cU_len]; have := hms.len; omega) | (rw [hvxu, cU_len]; omega)) (by decide) (by omega) (Nat.mul_one _)) ?_)
                refine tl_step rfl (oj_val (y_ld (v := .int .u32 (ud[k + i]'(by omega))) Try.isAgg153 (fe_t rfl) (rdl_vec 1 rfl) (by rw [hvx3, ← hab.same (k + i) (by omega) (by have := hab.len; omega) (by omega)]; exact cU_get (by have := hab.len; omega))) ?_)
                refine tl_step rfl (oj_val (y_convi Try.underlying153 Try.underlying41 (fe_t rfl) (IntWalk.u64_in _ (by omega))) ?_)
                refine tl_step rfl (oj_val (y_move (fe_t rfl)) ?_)
                refine tl_step rfl (oj_val (y_convi Try.underlying153 Try.underlying41 (fe_t rfl) (IntWalk.u64_in _ (by omega))) ?_)
                refine tl_step rfl (oj_val (y_as (b := (ud[k + i]'(by omega)) + (v[i]'(by omega))) (y_addk (fe_t rfl) (fe_t rfl)) (IntWalk.u64_in _ (by omega))) ?_)
                refine tl_step rfl (oj_val (y_as (b := (c + ((ud[k + i]'(by omega)) + (v[i]'(by omega))))) (y_addk (fe_t rfl) (fe_t rfl)) (IntWalk.u64_in _ (by omega))) ?_)
                refine tl_step rfl (oj_val (y_assign (fe_t rfl)) ?_)
                refine tl_nil ?_
                refine tx_then ?_
                refine tr_seq ?_
                refine tr_region ?_
                refine tl_step rfl (oj_val (y_move (fe_t rfl)) ?_)
                refine tl_step rfl (oj_val (y_as (b := ((k : Nat) : Int)) (y_move (fe_t rfl)) (by omega)) ?_)
                refine tl_step rfl (oj_val (y_move (fe_t rfl)) ?_)
                refine tl_step rfl (oj_val (y_as (b := ((k + i : Nat) : Int)) (y_add (fe_t rfl) (fe_t rfl) (by omega)) (by omega)) ?_)
                refine tl_step rfl (oj_val (y_move (fe_t rfl)) ?_)
                refine tl_step rfl (oj_val (y_as (y_conv Try.underlying41 Try.underlying153 (fe_t rfl)) (wrap_lo _)) ?_)
                refine tl_step rfl (oj_val (y_index Try.underlying33 Try.sizeOf153 (fe_t rfl) (fe_t rfl) (rdl_vec 1 rfl) (by first | (rw [hvx3, cU_len]; have := hab.len; omega) | (rw [hvx2, cU_len]; have := hms.len; omega) | (rw [List.length_set, hvx2, cU_len]; have := hms.len; omega) | (rw [hvxu, cU_len]; omega)) (by decide) (by omega) (Nat.mul_one _)) ?_)
                refine tl_step rfl (oj_storeE1 (i := 1) Try.sizeOf153 (fe_t rfl) (fe_t rfl) rfl rfl rfl (by omega) (?_))
                refine tl_nil ?_
                refine tx_then ?_
                refine tr_region ?_
                refine tl_step rfl (oj_val (y_move (fe_t rfl)) ?_)
                refine tl_step rfl (oj_val (y_as (y_shr (fe_t rfl) fe_c (by decide)) (shr32 t0)) ?_)
                refine tl_step rfl (oj_val (y_assign (fe_t rfl)) ?_)
                refine tl_nil ?_
                refine tx_in ?_
                refine tx_then ?_
                refine tr_region ?_
                refine tl_step rfl (oj_val (y_inc (fe_t rfl) fe_c (by omega)) ?_)
                refine tl_step rfl (oj_val (y_move (fe_t rfl)) ?_)
                refine tl_nil ?_
                apply tx_back4 (i + 1) (ut.set (k + i) ((c + ((ud[k + i]'(by omega)) + (v[i]'(by omega)))) % 4294967296)) (_) ((c + ((ud[k + i]'(by omega)) + (v[i]'(by omega)))) / 4294967296)
                · exact (cov_cons (by first | rfl | exact v_int (by omega) | exact v_bool (by simp [*])) (cov_cons (by first | rfl | exact v_int (by omega) | exact v_bool (by simp [*])) (cov_nil)))
                · repeat (first | exact over_nil | refine over_put rfl ?_ | refine over_drop rfl ?_)
                · exact fun w h => h.pick [0, 1, 2] _ rfl (by decide)
                · exact ⟨⟨by omega, by rw [hvx3, cU, cU, List.map_set], hnx⟩, by omega⟩
              · refine tr_exit ?_
                refine tx_then_exit ?_
                refine tx_then_exit ?_
                refine tx_in_exit ?_
                refine tx_then ?_
                obtain rfl : m = i := by omega
                have hum := hudd.get (k := k + m) (by omega)
                obtain ⟨ue, hue, hul2, hued, hsame2, hval2⟩ := ab_top hab hvl (by omega) rfl
                have hleft := ab_right hW hV0 hq1 hudl hsame hval hwn hul2 hued hsame2 hval2
                refine tr_region ?_
                refine tl_step rfl (oj_val (y_move (fe_t rfl)) ?_)
                refine tl_step rfl (oj_val (y_as (b := ((k : Nat) : Int)) (y_move (fe_t rfl)) (by omega)) ?_)
                refine tl_step rfl (oj_val (y_move (fe_t rfl)) ?_)
                refine tl_step rfl (oj_val (y_as (b := ((k + m : Nat) : Int)) (y_add (fe_t rfl) (fe_t rfl) (by omega)) (by omega)) ?_)
                refine tl_step rfl (oj_val (y_index Try.underlying33 Try.sizeOf153 (fe_t rfl) (fe_t rfl) (rdl_vec 1 rfl) (by first | (rw [hvx3, cU_len]; have := hab.len; omega) | (rw [hvx2, cU_len]; have := hms.len; omega) | (rw [List.length_set, hvx2, cU_len]; have := hms.len; omega) | (rw [hvxu, cU_len]; omega)) (by decide) (by omega) (Nat.mul_one _)) ?_)
                refine tl_step rfl (oj_val (y_ld (v := .int .u32 (ud[k + m]'(by omega))) Try.isAgg153 (fe_t rfl) (rdl_vec 1 rfl) (by rw [hvx3, ← hab.same (k + m) (by omega) (by have := hab.len; omega) (by omega)]; exact cU_get (by have := hab.len; omega))) ?_)
                refine tl_step rfl (oj_val (y_move (fe_t rfl)) ?_)
                refine tl_step rfl (oj_val (y_convi Try.underlying41 Try.underlying153 (fe_t rfl) (IntWalk.u32_in _ (by omega))) ?_)
                refine tl_step rfl (oj_val (y_as (y_addk (fe_t rfl) (fe_t rfl)) (wrap_lo _)) ?_)
                refine tl_step rfl (oj_val (y_index Try.underlying33 Try.sizeOf153 (fe_t rfl) (fe_t rfl) (rdl_vec 1 rfl) (by first | (rw [hvx3, cU_len]; have := hab.len; omega) | (rw [hvx2, cU_len]; have := hms.len; omega) | (rw [List.length_set, hvx2, cU_len]; have := hms.len; omega) | (rw [hvxu, cU_len]; omega)) (by decide) (by omega) (Nat.mul_one _)) ?_)
                refine tl_step rfl (oj_storeE1 (i := 1) Try.sizeOf153 (fe_t rfl) (fe_t rfl) rfl rfl rfl (by omega) (?_))
                refine tl_nil ?_
                refine tx_then ?_
                refine tr_region ?_
                refine tl_step rfl (oj_val (y_move (fe_t rfl)) ?_)
                refine tl_step rfl (oj_val (y_as (b := ((k : Nat) : Int)) (y_move (fe_t rfl)) (by omega)) ?_)
                refine tl_step rfl (oj_val (y_move (fe_t rfl)) ?_)
                refine tl_step rfl (oj_val (y_convi Try.underlying41 Try.underlying153 (fe_t rfl) (IntWalk.u32_in _ (by omega))) ?_)
                refine tl_step rfl (oj_val (y_index Try.underlying33 Try.sizeOf153 (fe_t rfl) (fe_t rfl) (rdl_vec 0 rfl) (by rw [hvxz, cU_len]; omega) (by decide) (by omega) (Nat.mul_one _)) ?_)
                refine tl_step rfl (oj_storeE1 (i := 0) Try.sizeOf153 (fe_t rfl) (fe_t rfl) rfl rfl rfl (by omega) (?_))
                refine tl_nil ?_
                refine tx_in ?_
                refine tx_then ?_
                refine tr_region ?_
                refine tl_step rfl (oj_val (y_move (fe_t rfl)) ?_)
                refine tl_step rfl (oj_val (y_sub (fe_t rfl) fe_c (by omega)) ?_)
                refine tl_step rfl (oj_val (y_assign (fe_t rfl)) ?_)
                refine tl_nil ?_
                apply tx_back5 (k) (ue) (zs.set k (W / (dval y * 2 ^ s))) (_) (_)
                · exact (cov_cons (by first | rfl | exact v_int (by omega) | exact v_bool (by simp [*])) (cov_nil))
                · repeat (first | exact over_nil | refine over_put rfl ?_ | refine over_drop rfl ?_)
                · exact fun w h => h.pick [0, 1, 2] _ rfl (by decide)
                · obtain ⟨hn1, hn2, hn3⟩ := k_step hki hW hV0 (by omega) hleft
                  exact ⟨⟨by omega, by rw [hvx3]; exact cU_set hue, by rw [hvxz, hq1, cU, cU, List.map_set], hleft.1.trans hul, by simpa using hzl, hn1⟩, by omega⟩
            · have hwn : ¬ ((us[k + m]'(by omega)) - c - b) < 0 := by omega
              obtain ⟨hq1, hleft⟩ := ms_right hW hV0 q3 hudl hudd hsame hval hwn
              refine tr_skip ?_
              refine tx_then ?_
              refine tr_region ?_
              refine tl_step rfl (oj_val (y_move (fe_t rfl)) ?_)
              refine tl_step rfl (oj_val (y_as (b := ((k : Nat) : Int)) (y_move (fe_t rfl)) (by omega)) ?_)
              refine tl_step rfl (oj_val (y_move (fe_t rfl)) ?_)
              refine tl_step rfl (oj_val (y_convi Try.underlying41 Try.underlying153 (fe_t rfl) (IntWalk.u32_in _ (by omega))) ?_)
              refine tl_step rfl (oj_val (y_index Try.underlying33 Try.sizeOf153 (fe_t rfl) (fe_t rfl) (rdl_vec 0 rfl) (by rw [hvxz, cU_len]; omega) (by decide) (by omega) (Nat.mul_one _)) ?_)
              refine tl_step rfl (oj_storeE1 (i := 0) Try.sizeOf153 (fe_t rfl) (fe_t rfl) rfl rfl rfl (by omega) (?_))
              refine tl_nil ?_
              refine tx_in ?_
              refine tx_then ?_
              refine tr_region ?_
              refine tl_step rfl (oj_val (y_move (fe_t rfl)) ?_)
              refine tl_step rfl (oj_val (y_sub (fe_t rfl) fe_c (by omega)) ?_)
              refine tl_step rfl (oj_val (y_assign (fe_t rfl)) ?_)
              refine tl_nil ?_
              apply tx_back5 (k) (ud) (zs.set k (W / (dval y * 2 ^ s))) (_) (_)
              · exact (cov_cons (by first | rfl | exact v_int (by omega) | exact v_bool (by simp [*])) (cov_nil))
              · repeat (first | exact over_nil | refine over_put rfl ?_ | refine over_drop rfl ?_)
              · exact fun w h => h.pick [0, 1, 2] _ rfl (by decide)
              · obtain ⟨hn1, hn2, hn3⟩ := k_step hki hW hV0 (by omega) hleft
                exact ⟨⟨by omega, by rw [hvx2]; exact cU_set hud, by rw [hvxz, ← hq1, cU, cU, List.map_set], hleft.1.trans hul, by simpa using hzl, hn1⟩, by omega⟩
      · refine tr_exit ?_
        refine tx_then_exit ?_
        refine tx_then_exit ?_
        refine tx_in_exit ?_
        refine tx_then ?_
        refine tr_seq ?_
        obtain rfl : K = 0 := by omega
        obtain ⟨f1, f2⟩ := k_fin hki hY hdvl (by omega)
        refine tr_region ?_
        refine tl_step rfl (oj_val (y_move (fe_t rfl)) ?_)
        refine tl_step rfl (oj_val (y_move (fe_t rfl)) ?_)
        refine tl_step rfl (oj_val (y_move (fe_t rfl)) ?_)
        refine tl_step rfl (oj_val (y_cutH Try.underlying33 Try.sizeOf153 (fe_t rfl) (fe_t rfl) (by omega)) ?_)
        refine tl_step rfl (oj_val (y_move (fe_t rfl)) ?_)
        refine tl_step rfl (oj_call Try.call169 fe_f (fel_cons (fe_t rfl) (fel_cons (fe_t rfl) fel_nil)) (fun w' hS => shrE _ _ s (us.take m) w' (by have h := (OwnV.rd (hS.holds 1 _ rfl)).2.2; rw [hvxu] at h; exact rd_pre h) (hki.du.take m) m (by simp; omega) (by omega) (by omega) (by omega)) (fun p3 hp3 => ?_))
        refine tl_step rfl (oj_val (y_assign (fe_t rfl)) ?_)
        refine tl_step rfl (oj_val (y_assign (fe_t rfl)) ?_)
        refine tl_nil ?_
        refine tx_then ?_
        refine tr_ret ?_
        refine tx_ret (res2 Try.results172 (rok_t rfl) (rok_t rfl)) (fun w' hS => ?_)
        exact ⟨(⟨false, some ⟨gov, 0, none⟩, n + 1, n + 1, zs⟩, p3), ⟨⟨by dsimp only; omega, Nat.le_refl _, by dsimp only; omega, hki.dz⟩, ⟨hp3.1, hp3.2.1, hp3.2.2.1, hp3.2.2.2.1⟩, f1, by rw [hp3.2.2.2.2]; exact f2⟩, rfl, by rw [hvxz] at hS; exact hS.pick [1, 0] _ rfl (by decide)⟩

end Go.Proofs.Ytcpdelkamckmfaa.Frac
