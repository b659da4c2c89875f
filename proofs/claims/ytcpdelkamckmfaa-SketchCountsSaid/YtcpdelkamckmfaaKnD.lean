/- Rsh, And. -/
import Derived.Test.YtcpdelkamckmfaaKnC
namespace Go.Proofs.Ytcpdelkamckmfaa.Frac
open Go.RowKit Go.Proofs.Ytcpdelkamckmfaa.E Go.Proofs.Ytcpdelkamckmfaa.Big

theorem fill_next {x : List Int} {k m : Nat} (h : k < m) (hk : k < x.length) : (x.take k ++ List.replicate (m - k) 0).set k x[k] = x.take (k + 1) ++ List.replicate (m - (k + 1)) 0 := by
  obtain ⟨d, rfl⟩ : ∃ d, m = k + 1 + d := ⟨m - (k + 1), by omega⟩
  rw [show k + 1 + d - k = d + 1 by omega, show k + 1 + d - (k + 1) = d by omega, List.replicate_succ, List.set_append_right _ _ (by simp; omega), List.length_take, Nat.min_eq_left (Nat.le_of_lt hk), Nat.sub_self, List.set_cons_zero, List.take_succ_eq_append_getElem hk, List.append_assoc]
  rfl
theorem mask_len {y : Nm} (h : y.is 18446744073709551615) : y.n = 2 := by
  have h2 := nm_two h (by omega) (by omega)
  have h3 := nm_abs h
  have h4 := dval_lt h.dig
  rw [h.len] at h4
  rcases Nat.lt_or_ge y.n 2 with h5 | h5
  · have h6 := pw_mono (show y.n ≤ 1 by omega)
    have h7 : pw 1 = 4294967296 := rfl
    omega
  · omega
theorem mask_at {y : Nm} (h : y.is 18446744073709551615) {k : Nat} (hk : k < y.ds.length) : y.ds[k] = 4294967295 := by
  have h1 := mask_len h
  have h2 := h.len
  have h3 := nm_abs h
  have h4 := h.dig
  have g0 := h4.get (k := 0) (by omega)
  have g1 := h4.get (k := 1) (by omega)
  obtain ⟨a, b, hab⟩ : ∃ a b, y.ds = [a, b] := by
    match e : y.ds, h2.trans h1 with
    | [a, b], _ => exact ⟨a, b, rfl⟩
  simp only [hab, dval, List.getElem_cons_zero, List.getElem_cons_succ] at h3 g0 g1 ⊢
  have hk2 : k < 2 := by rw [hab] at hk; exact hk
  match k, hk2 with
  | 0, _ => simp only [List.getElem_cons_zero]; omega
  | 1, _ => simp only [List.getElem_cons_succ, List.getElem_cons_zero]; omega
theorem u32_mask (x : Int) (h0 : 0 ≤ x) (h1 : x < 4294967296) {P : Program} (w : World) : (Op.intBits .and .u32 x 4294967295).run P w = .ok (.int .u32 x) w := by
  have e : bits .and .u32 x 4294967295 = x := by
    rw [u32_and x 4294967295 h0 (by omega) (by omega) (by omega), show (4294967295 : Int).toNat = 2 ^ 32 - 1 from rfl, Nat.and_two_pow_sub_one_eq_mod]
    omega
  simp only [Op.intBits]
  first | (rw [e]; rfl) | (simp [bits] at e ⊢; exact e)
theorem low64 {x : List Int} (hx : Dig x) : dval (x.take (min x.length 2)) = dval x % 18446744073709551616 := by
  have p2 : pw 2 = 18446744073709551616 := rfl
  rcases Nat.lt_or_ge x.length 2 with h | h
  · rw [List.take_of_length_le (by omega)]
    have h1 := dval_lt hx
    have h0 := dval_nonneg hx
    have h2 := pw_mono (show x.length ≤ 2 by omega)
    omega
  · rw [Nat.min_eq_right h]
    obtain ⟨h1, h2, h3⟩ := dval_hi hx h
    rw [p2] at h1 h3
    omega

set_option maxRecDepth 100000 in
set_option maxHeartbeats 2000000 in
theorem rshB {w0 w : World} {T : List Res} {H D : List Nat} {l : List Ent} {b o : Nat} {q : Nm} (hS : St w0 w (bag H D (⟨b, o, q⟩ :: l) :: T)) {b_x o_x : Nat} {x : Nm} {zx : Int} (mx : (⟨b_x, o_x, x⟩ : Ent) ∈ (⟨b, o, q⟩ : Ent) :: l) (hx : x.is zx) (lx : x.n ≤ 100000) (s : Nat) (ls : s ≤ 1000) (h0 : 0 ≤ zx) :
    Calls Try.prog 123 #[.pointer (some ⟨b, o, none⟩), .pointer (some ⟨b_x, o_x, none⟩), .int .u64 (s : Int)] w fun e w' => ∃ r : B1, r.q.is (zx / 2 ^ s) ∧ e = .returned (.pointer (some ⟨b, o, none⟩)) ∧ St w0 w' (bag r.H r.D (⟨b, o, r.q⟩ :: l) :: T) := by
  refine calls_tr Try.func123 Try.ntmps123 rfl rfl hS ?_
  refine tr_seq ?_
  refine tr_region ?_
  refine tl_step rfl (oj_val (y_assign fe_c) ?_)
  refine tl_nil ?_
  refine tx_then ?_
  refine tr_seq ?_
  refine tr_seq ?_
  refine tr_region ?_
  refine tl_step rfl (oj_val (y_move (fe_t rfl)) ?_)
  refine tl_step rfl (oj_val (y_nilCheck (fe_t rfl)) ?_)
  refine tl_step rfl (oj_val (y_fieldAddr (td := 4) Try.underlying35 rfl rfl Try.sizeOf4 (o' := o_x) rfl (fe_t rfl)) ?_)
  refine tl_step rfl (oj_val (y_ldN1 0 Try.isAgg4 (fe_t rfl) rfl mx) ?_)
  refine tl_nil ?_
  refine tx_then ?_
  refine tr_cond (fe_t rfl) (fun hq1 => ?_) (fun hq2 => ?_)
  · exfalso; have := (nm_neg hx).1 hq1; omega
  · refine tr_skip ?_
    refine tx_then ?_
    refine tr_seq ?_
    refine tr_region ?_
    refine tl_step rfl (oj_val (y_move (fe_t rfl)) ?_)
    refine tl_step rfl (oj_val (y_move (fe_t rfl)) ?_)
    refine tl_step rfl (oj_val (y_move (fe_t rfl)) ?_)
    refine tl_step rfl (oj_val (y_nilCheck (fe_t rfl)) ?_)
    refine tl_step rfl (oj_val (y_fieldAddr (td := 33) Try.underlying35 rfl rfl Try.sizeOf33 (o' := o_x + 1) rfl (fe_t rfl)) ?_)
    refine tl_step rfl (oj_val (y_ldN2 0 Try.isAgg33 (fe_t rfl) rfl mx) ?_)
    refine tl_step rfl (oj_val (y_move (fe_t rfl)) ?_)
    refine tl_step rfl (oj_val (y_convi Try.underlying152 Try.underlying3 (fe_t rfl) (IntWalk.i64_in _ (by omega))) ?_)
    refine tl_step rfl (oj_call Try.call169 fe_f (fel_cons (fe_t rfl) (fel_cons (fe_t rfl) fel_nil)) (fun w' hS => shrE _ _ s _ w' ((hS.holds 0 _ rfl).ok _ mx).rd hx.dig _ hx.len hx.cap (by omega) ls) (fun p hp => ?_))
    refine tl_step rfl (oj_val (y_nilCheck (fe_t rfl)) ?_)
    refine tl_step rfl (oj_val (y_fieldAddr (td := 4) Try.underlying35 rfl rfl Try.sizeOf4 (o' := o) rfl (fe_t rfl)) ?_)
    refine tl_step rfl (oj_stN1 1 0 Try.sizeOf4 (fe_t rfl) fe_c rfl rfl (?_))
    refine tl_step rfl (oj_val (y_nilCheck (fe_t rfl)) ?_)
    refine tl_step rfl (oj_val (y_fieldAddr (td := 33) Try.underlying35 rfl rfl Try.sizeOf33 (o' := o + 1) rfl (fe_t rfl)) ?_)
    refine tl_step rfl (oj_stN3 (ds := p.ds) 1 0 0 Try.sizeOf33 (fe_t rfl) (fe_t rfl) rfl rfl rfl rfl (fun D1 => ?_))
    refine tl_nil ?_
    refine tx_then ?_
    refine tr_seq ?_
    refine tr_region ?_
    refine tl_step rfl (oj_val (y_move (fe_t rfl)) ?_)
    refine tl_step rfl (oj_call2 Try.call126 fe_f (fel_cons (fe_t rfl) fel_nil) (fun w' hS => lift1 (p := fun n_ => n_.is (sg false (dval p.ds))) 1 0 hS rfl rfl (fun T l' hm hS => trimB hS hp.1 hp.2.1 (Nat.le_trans hp.2.2.1 (by decide)) hp.2.2.2.1)) (fun r1 hr1 => ?_))
    refine tl_step rfl (oj_val (y_assign (fe_t rfl)) ?_)
    refine tl_nil ?_
    refine tx_then ?_
    refine tr_ret ?_
    refine tx_ret (res1 Try.results123 (rok_t rfl)) (fun w' hS => ?_)
    rw [hp.2.2.2.2, nm_abs hx, show ((zx.natAbs : Nat) : Int) = zx by omega, show sg false (zx / 2 ^ s) = zx / 2 ^ s from rfl] at hr1
    have hS := pickT (l := [_, _]) hS [1] rfl (by decide)
    have hS' : St w0 w' (bag _ _ ((⟨b, o, _⟩ : Ent) :: l) :: T) := hS
    exact fin1 hS' hr1

set_option maxRecDepth 100000 in
set_option maxHeartbeats 2000000 in
theorem andB {w0 w : World} {T : List Res} {H D : List Nat} {l : List Ent} {b o : Nat} {q : Nm} (hS : St w0 w (bag H D (⟨b, o, q⟩ :: l) :: T)) {b_x o_x : Nat} {x : Nm} {zx : Int} (mx : (⟨b_x, o_x, x⟩ : Ent) ∈ (⟨b, o, q⟩ : Ent) :: l) {b_y o_y : Nat} {y : Nm} (my : (⟨b_y, o_y, y⟩ : Ent) ∈ (⟨b, o, q⟩ : Ent) :: l) (hx : x.is zx) (hy : y.is 18446744073709551615) (lx : x.n ≤ 100000) (h0 : 0 ≤ zx) :
    Calls Try.prog 122 #[.pointer (some ⟨b, o, none⟩), .pointer (some ⟨b_x, o_x, none⟩), .pointer (some ⟨b_y, o_y, none⟩)] w fun e w' => ∃ r : B1, r.q.is (zx % 18446744073709551616) ∧ e = .returned (.pointer (some ⟨b, o, none⟩)) ∧ St w0 w' (bag r.H r.D (⟨b, o, r.q⟩ :: l) :: T) := by
  have lx1 := hx.len
  have ly1 := hy.len
  have hly := mask_len hy
  refine calls_tr Try.func122 Try.ntmps122 rfl rfl hS ?_
  refine tr_seq ?_
  refine tr_region ?_
  refine tl_step rfl (oj_val (y_assign fe_c) ?_)
  refine tl_nil ?_
  refine tx_then ?_
  refine tr_seq ?_
  refine tb_draw 12 (sel _ [0]) (fun w h => h.sel _ rfl (by decide)) rfl ?_
  refine tb_float (i := 0) rfl (by kernel_rfl) rfl (wants_none rfl) (yq_of (y_move (fe_t rfl))) ?_
  refine tb_float (i := 1) rfl (by kernel_rfl) rfl (wants_none rfl) (yq_of (y_nilCheck (fe_t rfl))) ?_
  refine tb_float (i := 2) rfl (by kernel_rfl) rfl (wants_none rfl) (yq_of (y_fieldAddr (td := 33) Try.underlying35 rfl rfl Try.sizeOf33 (o' := o_x + 1) rfl (fe_t rfl))) ?_
  refine tb_float (i := 3) rfl (by kernel_rfl) rfl (wants_none rfl) (yq_of (y_ldN2 0 Try.isAgg33 (fe_t rfl) rfl mx)) ?_
  refine tb_float (i := 4) rfl (by kernel_rfl) rfl (wants_none rfl) (yq_of (y_len Try.underlying33 (fe_t rfl))) ?_
  refine tb_float (i := 5) rfl (by kernel_rfl) rfl (wants_none rfl) (yq_of (y_move (fe_t rfl))) ?_
  refine tb_float (i := 6) rfl (by kernel_rfl) rfl (wants_none rfl) (yq_of (y_nilCheck (fe_t rfl))) ?_
  refine tb_float (i := 7) rfl (by kernel_rfl) rfl (wants_none rfl) (yq_of (y_fieldAddr (td := 33) Try.underlying35 rfl rfl Try.sizeOf33 (o' := o_y + 1) rfl (fe_t rfl))) ?_
  refine tb_float (i := 8) rfl (by kernel_rfl) rfl (wants_none rfl) (yq_of (y_ldN2 0 Try.isAgg33 (fe_t rfl) rfl my)) ?_
  refine tb_float (i := 9) rfl (by kernel_rfl) rfl (wants_none rfl) (yq_of (y_len Try.underlying33 (fe_t rfl))) ?_
  refine tb_float (i := 10) rfl (by kernel_rfl) rfl (wants_none rfl) (yq_of (y_as (b := ((min x.n y.n : Nat) : Int)) (y_min (fe_t rfl) (fe_t rfl)) (by omega))) ?_
  refine tb_float (i := 11) rfl (by kernel_rfl) rfl (wants_none rfl) (yq_of (y_assign (fe_t rfl))) ?_
  refine tb_done (by kernel_rfl) ?_
  refine tx_then ?_
  refine tr_seq ?_
  refine tr_region ?_
  refine tl_step rfl (oj_val (y_move (fe_t rfl)) ?_)
  refine tl_step rfl (oj_make (n := (min x.n y.n)) (z := (.int .u32 0)) (bytes := 4) Try.underlying33 (by kernel_rfl) (fe_t rfl) (fe_t rfl) rfl ⟨by omega, by decide⟩ (fun gnv => ?_))
  refine tl_step rfl (oj_val (y_assign (fe_t rfl)) ?_)
  refine tl_nil ?_
  refine tx_then ?_
  refine tr_seq ?_
  refine tr_seq ?_
  refine tr_region ?_
  refine tl_step rfl (oj_val (y_move (fe_t rfl)) ?_)
  refine tl_step rfl (oj_val (y_len Try.underlying33 (fe_t rfl)) ?_)
  refine tl_step rfl (oj_val (y_move fe_c) ?_)
  refine tl_nil ?_
  refine tx_then ?_
  refine tr_block ?_
  refine tr_loop2 [9, 25, 26, 27, 28, 29, 30, 31, 32, 33, 34, 35, 36, 37, 38, 39, 40, 41, 42, 43, 44, 45, 46] (fun (k : Nat) (vx : List Value) => [(25, .int .i64 (k : Int))]) 0 (fun (k : Nat) (vx : List Value) => [(0, vec 153 1 (.slice (some ⟨gnv, 0, none⟩) (min x.n y.n) (min x.n y.n)) (min x.n y.n) vx)]) (fun (k : Nat) (vx : List Value) => k ≤ min x.n y.n ∧ vx = cU (x.ds.take k ++ List.replicate (min x.n y.n - k) 0)) (fun (k : Nat) (vx : List Value) => min x.n y.n - k) (0) (List.replicate (min x.n y.n) (.int .u32 0)) (cov_cons (by first | rfl | exact v_int (by omega) | exact v_bool (by simp [*])) (cov_nil)) (fun w h => h) ?_ ?_
  · try dsimp only
    exact ⟨by omega, by simp [cU]⟩
  intro k vx hp
  obtain ⟨hk, hvx⟩ := hp
  refine tr_seq ?_
  refine tr_region ?_
  refine tl_step rfl (oj_val (y_lss (fe_t rfl) (fe_t rfl)) ?_)
  refine tl_nil ?_
  refine tx_then ?_
  refine tr_seq ?_
  refine tr_condp (fe_t rfl) (fun hq1 => ?_) (fun hq2 => ?_)
  · refine tr_skip ?_
    refine tx_then ?_
    refine tr_seq ?_
    refine tr_block ?_
    refine tr_seq ?_
    refine tr_region ?_
    refine tl_step rfl (oj_val (y_move (fe_t rfl)) ?_)
    refine tl_step rfl (oj_val (y_assign (fe_t rfl)) ?_)
    refine tl_nil ?_
    refine tx_then ?_
    have hdk := hx.dig.get (k := k) (by omega)
    have hma := mask_at hy (k := k) (by omega)
    have hmk := fun w => u32_mask (P := Try.prog) _ hdk.1 hdk.2 w
    refine tb_draw 18 (sel _ [1]) (fun w h => h.sel _ rfl (by decide)) rfl ?_
    refine tb_float (i := 0) rfl (by kernel_rfl) rfl (wants_none rfl) (yq_of (y_move (fe_t rfl))) ?_
    refine tb_float (i := 1) rfl (by kernel_rfl) rfl (wants_none rfl) (yq_of (y_move (fe_t rfl))) ?_
    refine tb_float (i := 2) rfl (by kernel_rfl) rfl (wants_none rfl) (yq_of (y_move (fe_t rfl))) ?_
    refine tb_float (i := 3) rfl (by kernel_rfl) rfl (wants_none rfl) (yq_of (y_nilCheck (fe_t rfl))) ?_
    refine tb_float (i := 4) rfl (by kernel_rfl) rfl (wants_none rfl) (yq_of (y_fieldAddr (td := 33) Try.underlying35 rfl rfl Try.sizeOf33 (o' := o_x + 1) rfl (fe_t rfl))) ?_
    refine tb_float (i := 5) rfl (by kernel_rfl) rfl (wants_none rfl) (yq_of (y_ldN2 0 Try.isAgg33 (fe_t rfl) rfl mx)) ?_
    refine tb_float (i := 6) rfl (by kernel_rfl) rfl (wants_none rfl) (yq_of (y_move (fe_t rfl))) ?_
    refine tb_float (i := 7) rfl (by kernel_rfl) rfl (wants_none rfl) (yq_of (y_index Try.underlying33 Try.sizeOf153 (fe_t rfl) (fe_t rfl) (rdl_bag 0 rfl mx) (by rw [cU_len, hx.len, Nat.mul_one]) (by decide) (by omega) (Nat.mul_one _))) ?_
    refine tb_float (i := 8) rfl (by kernel_rfl) rfl (wants_none rfl) (yq_of (y_ld (v := .int .u32 (x.ds[k]'(by omega))) Try.isAgg153 (fe_t rfl) (rdl_bag 0 rfl mx) (cU_get (by omega)))) ?_
    refine tb_float (i := 9) rfl (by kernel_rfl) rfl (wants_none rfl) (yq_of (y_move (fe_t rfl))) ?_
    refine tb_float (i := 10) rfl (by kernel_rfl) rfl (wants_none rfl) (yq_of (y_nilCheck (fe_t rfl))) ?_
    refine tb_float (i := 11) rfl (by kernel_rfl) rfl (wants_none rfl) (yq_of (y_fieldAddr (td := 33) Try.underlying35 rfl rfl Try.sizeOf33 (o' := o_y + 1) rfl (fe_t rfl))) ?_
    refine tb_float (i := 12) rfl (by kernel_rfl) rfl (wants_none rfl) (yq_of (y_ldN2 0 Try.isAgg33 (fe_t rfl) rfl my)) ?_
    refine tb_float (i := 13) rfl (by kernel_rfl) rfl (wants_none rfl) (yq_of (y_move (fe_t rfl))) ?_
    refine tb_float (i := 14) rfl (by kernel_rfl) rfl (wants_none rfl) (yq_of (y_index Try.underlying33 Try.sizeOf153 (fe_t rfl) (fe_t rfl) (rdl_bag 0 rfl my) (by rw [cU_len, hy.len, Nat.mul_one]) (by decide) (by omega) (Nat.mul_one _))) ?_
    refine tb_float (i := 15) rfl (by kernel_rfl) rfl (wants_none rfl) (yq_of (y_ld (v := .int .u32 (y.ds[k]'(by omega))) Try.isAgg153 (fe_t rfl) (rdl_bag 0 rfl my) (cU_get (by omega)))) ?_
    refine tb_float (i := 16) rfl (by kernel_rfl) rfl (wants_none rfl) (yq_of (y_as (y_bits (.inl rfl) (fe_t rfl) (fe_t rfl) (fun w => by rw [hma]; exact hmk w)) rfl)) ?_
    refine tb_float1 (i := 17) rfl (by kernel_rfl) (by kernel_rfl) rfl (wants_none rfl) (yq_of (y_index Try.underlying33 Try.sizeOf153 (fe_t rfl) (fe_t rfl) (rdl_vec 0 rfl) (by rw [hvx, cU_len]; simp; omega) (by decide) (by omega) (Nat.mul_one _))) ?_
    refine tb_one2 (i := 18) rfl (by kernel_rfl) (by kernel_rfl) (wants_none rfl) (oj_storeE1 (i := 0) Try.sizeOf153 (fe_t rfl) (fe_t rfl) rfl rfl rfl (by omega) (⟨fun w h => h.pick [1] _ rfl (by decide), ?_⟩))
    refine tb_done (by kernel_rfl) ?_
    refine tx_in ?_
    refine tx_then ?_
    refine tr_region ?_
    refine tl_step rfl (oj_val (y_inc (fe_t rfl) fe_c (by omega)) ?_)
    refine tl_step rfl (oj_val (y_move (fe_t rfl)) ?_)
    refine tl_nil ?_
    apply tx_back2 (k + 1) (_)
    · exact (cov_cons (by first | rfl | exact v_int (by omega) | exact v_bool (by simp [*])) (cov_nil))
    · repeat (first | exact over_nil | refine over_put rfl ?_ | refine over_drop rfl ?_)
    · exact fun w h => h
    · exact ⟨⟨by omega, by rw [hvx, ← fill_next (by omega) (by omega), cU, cU, List.map_set]⟩, by omega⟩
  · refine tr_exit ?_
    refine tx_then_exit ?_
    refine tx_then_exit ?_
    refine tx_in_exit ?_
    refine tx_then ?_
    refine tr_seq ?_
    obtain rfl : vx = cU (x.ds.take (min x.n y.n)) := by rw [hvx, show k = min x.n y.n by omega]; simp
    refine tr_region ?_
    refine tl_step rfl (oj_val (y_move (fe_t rfl)) ?_)
    refine tl_step rfl (oj_val (y_move (fe_t rfl)) ?_)
    refine tl_step rfl (oj_val (y_move (fe_t rfl)) ?_)
    refine tl_step rfl (oj_val (y_nilCheck (fe_t rfl)) ?_)
    refine tl_step rfl (oj_val (y_fieldAddr (td := 4) Try.underlying35 rfl rfl Try.sizeOf4 (o' := o) rfl (fe_t rfl)) ?_)
    refine tl_step rfl (oj_stN1 1 0 Try.sizeOf4 (fe_t rfl) fe_c rfl rfl (?_))
    refine tl_step rfl (oj_val (y_nilCheck (fe_t rfl)) ?_)
    refine tl_step rfl (oj_val (y_fieldAddr (td := 33) Try.underlying35 rfl rfl Try.sizeOf33 (o' := o + 1) rfl (fe_t rfl)) ?_)
    refine tl_step rfl (oj_stN3 (ds := (x.ds.take (min x.n y.n))) 1 0 0 Try.sizeOf33 (fe_t rfl) (fe_t rfl) rfl rfl rfl rfl (fun D1 => ?_))
    refine tl_nil ?_
    refine tx_then ?_
    refine tr_seq ?_
    refine tr_region ?_
    refine tl_step rfl (oj_val (y_move (fe_t rfl)) ?_)
    refine tl_step rfl (oj_call2 Try.call126 fe_f (fel_cons (fe_t rfl) fel_nil) (fun w' hS => lift1 (p := fun n_ => n_.is (sg false (dval (x.ds.take (min x.n y.n))))) 1 0 hS rfl rfl (fun T l' hm hS => trimB hS (by dsimp only; simp; omega) (Nat.le_refl _) (by dsimp only; omega) (hx.dig.take _))) (fun r1 hr1 => ?_))
    refine tl_step rfl (oj_val (y_assign (fe_t rfl)) ?_)
    refine tl_nil ?_
    refine tx_then ?_
    refine tr_ret ?_
    refine tx_ret (res1 Try.results122 (rok_t rfl)) (fun w' hS => ?_)
    rw [hly, show x.n = x.ds.length from hx.len.symm, low64 hx.dig, nm_abs hx, show ((zx.natAbs : Nat) : Int) = zx by omega, show sg false (zx % 18446744073709551616) = zx % 18446744073709551616 from rfl] at hr1
    have hS := pickT (l := [_, _]) hS [1] rfl (by decide)
    have hS' : St w0 w' (bag _ _ ((⟨b, o, _⟩ : Ent) :: l) :: T) := hS
    exact fin1 hS' hr1

end Go.Proofs.Ytcpdelkamckmfaa.Frac
