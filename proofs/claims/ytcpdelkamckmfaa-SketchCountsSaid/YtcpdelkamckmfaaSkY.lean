/- Xor. -/
import Derived.Test.YtcpdelkamckmfaaKnD
import Derived.Test.YtcpdelkamckmfaaSkX
namespace Go.Proofs.Ytcpdelkamckmfaa.Frac
open Go.RowKit Go.Proofs.Ytcpdelkamckmfaa.E Go.Proofs.Ytcpdelkamckmfaa.Big

theorem u64_wrap (v : Int) : IntKind.u64.wrap v = v % 18446744073709551616 := by simp [IntKind.wrap, IntKind.signed, IntKind.bits]
theorem wprod {a b : Int} (ha : 0 ≤ a ∧ a ≤ 18446744073709551615) (hb : 0 ≤ b ∧ b ≤ 18446744073709551615) : 0 ≤ a * b ∧ a * b ≤ 340282366920938463426481119284349108225 :=
  ⟨Int.mul_nonneg ha.1 hb.1, by have := Int.mul_le_mul ha.2 hb.2 hb.1 (by decide); omega⟩
theorem sm_big {z : Int} (h0 : -680564733841876926926749214863536422912 < z) (h1 : z < 680564733841876926926749214863536422912) : Sm z := by
  have := pw_mono (show 5 ≤ 1000 by omega)
  have h5 : pw 5 = 1461501637330902918203684832716283019655932542976 := rfl
  unfold Sm
  constructor <;> omega

theorem lsh64 {w0 w : World} {T : List Res} {H D : List Nat} {l : List Ent} {b o : Nat} {q : Nm} (hS : St w0 w (bag H D (⟨b, o, q⟩ :: l) :: T)) {b_x o_x : Nat} {x : Nm} {zx : Int} (mx : (⟨b_x, o_x, x⟩ : Ent) ∈ (⟨b, o, q⟩ : Ent) :: l) (hx : x.is zx) (lx : x.n ≤ 100000) :
    Calls Try.prog 118 #[.pointer (some ⟨b, o, none⟩), .pointer (some ⟨b_x, o_x, none⟩), .int .u64 64] w fun e w' => ∃ r : B1, r.q.is (zx * 18446744073709551616) ∧ e = .returned (.pointer (some ⟨b, o, none⟩)) ∧ St w0 w' (bag r.H r.D (⟨b, o, r.q⟩ :: l) :: T) := by
  have := lshB hS mx hx lx 64 (by decide)
  rw [show zx * 2 ^ 64 = zx * 18446744073709551616 from rfl] at this
  exact this

set_option maxRecDepth 100000 in
set_option maxHeartbeats 1000000 in
theorem aofW {w0 w : World} {T : List Res} {H D : List Nat} {l : List Ent} (hS : St w0 w (bag H D l :: T)) (v : Int) (h0 : 0 ≤ v) (h1 : v ≤ 18446744073709551615) :
    Calls Try.prog 30 #[.int .u64 v] w fun e w' => ∃ r : BN, r.q.is (v) ∧ e = .returned (.pointer (some ⟨r.b, 0, none⟩)) ∧ St w0 w' (bag r.H r.D (⟨r.b, 0, r.q⟩ :: l) :: T) := by
  refine calls_tr Try.func30 Try.ntmps30 rfl rfl hS ?_
  refine tr_seq ?_
  refine tr_region ?_
  refine tl_step rfl (oj_val (y_assign fe_c) ?_)
  refine tl_nil ?_
  refine tx_then ?_
  refine tr_seq ?_
  refine tr_region ?_
  refine tl_step rfl (oj_allocN 0 Try.zeroValue35 rfl (fun b_n H_n => ?_))
  refine tl_step rfl (oj_val (y_move (fe_t rfl)) ?_)
  refine tl_step rfl (oj_call2 Try.call116 fe_f (fel_cons (fe_t rfl) (fel_cons (fe_t rfl) fel_nil)) (fun w' hS => lift1 (p := fun n_ => n_.is (_)) 0 0 hS rfl rfl (fun T l' hm hS => setuB hS v h0 h1)) (fun r1 hr1 => ?_))
  refine tl_step rfl (oj_val (y_assign (fe_t rfl)) ?_)
  refine tl_nil ?_
  refine tx_then ?_
  refine tr_ret ?_
  refine tx_ret (res1 Try.results30 (rok_t rfl)) (fun w' hS => ?_)
  have hS' : St w0 w' (bag _ _ ((⟨b_n, 0, _⟩ : Ent) :: l) :: T) := hS
  exact finN hS' hr1

theorem u32_xr (a b : Int) (ha : 0 ≤ a ∧ a < 4294967296) (hb : 0 ≤ b ∧ b < 4294967296) {P : Program} (w : World) : (Op.intBits .xor .u32 a b).run P w = .ok (.int .u32 (xr a b)) w := by
  have e : bits .xor .u32 a b = xr a b := by rw [u32_xor a b (by omega) (by omega) (by omega) (by omega)]; rfl
  simp only [Op.intBits]
  first | (rw [e]; rfl) | (simp [bits] at e ⊢; exact e)
theorem u64_xr (a b : Int) (ha : 0 ≤ a ∧ a < 18446744073709551616) (hb : 0 ≤ b ∧ b < 18446744073709551616) {P : Program} (w : World) : (Op.intBits .xor .u64 a b).run P w = .ok (.int .u64 (xr a b)) w := by
  have e : bits .xor .u64 a b = xr a b := by rw [u64_xor a b (by omega) (by omega) (by omega) (by omega)]; rfl
  simp only [Op.intBits]
  first | (rw [e]; rfl) | (simp [bits] at e ⊢; exact e)

set_option maxRecDepth 100000 in
set_option maxHeartbeats 4000000 in
theorem xorB {w0 w : World} {T : List Res} {H D : List Nat} {l : List Ent} {b o : Nat} {q : Nm} (hS : St w0 w (bag H D (⟨b, o, q⟩ :: l) :: T)) {b_x o_x : Nat} {x : Nm} {zx : Int} (mx : (⟨b_x, o_x, x⟩ : Ent) ∈ (⟨b, o, q⟩ : Ent) :: l) {b_y o_y : Nat} {y : Nm} {zy : Int} (my : (⟨b_y, o_y, y⟩ : Ent) ∈ (⟨b, o, q⟩ : Ent) :: l) (hx : x.is zx) (hy : y.is zy) (lx : x.n ≤ 100000) (ly : y.n ≤ 100000) (h0 : 0 ≤ zx) (g0 : 0 ≤ zy) :
    Calls Try.prog 136 #[.pointer (some ⟨b, o, none⟩), .pointer (some ⟨b_x, o_x, none⟩), .pointer (some ⟨b_y, o_y, none⟩)] w fun e w' => ∃ r : B1, r.q.is (xr zx zy) ∧ e = .returned (.pointer (some ⟨b, o, none⟩)) ∧ St w0 w' (bag r.H r.D (⟨b, o, r.q⟩ :: l) :: T) := by
  have lx1 := hx.len
  have ly1 := hy.len
  refine calls_tr Try.func136 Try.ntmps136 rfl rfl hS ?_
  refine tr_seq ?_
  refine tr_region ?_
  refine tl_step rfl (oj_val (y_assign fe_c) ?_)
  refine tl_nil ?_
  refine tx_then ?_
  refine tr_seq ?_
  refine tb_draw 10 (sel _ [0]) (fun w h => h.sel _ rfl (by decide)) rfl ?_
  refine tb_float (i := 0) rfl (by kernel_rfl) rfl (wants_none rfl) (yq_of (y_move (fe_t rfl))) ?_
  refine tb_float (i := 1) rfl (by kernel_rfl) rfl (wants_none rfl) (yq_of (y_nilCheck (fe_t rfl))) ?_
  refine tb_float (i := 2) rfl (by kernel_rfl) rfl (wants_none rfl) (yq_of (y_fieldAddr (td := 33) Try.underlying35 rfl rfl Try.sizeOf33 (o' := o_x + 1) rfl (fe_t rfl))) ?_
  refine tb_float (i := 3) rfl (by kernel_rfl) rfl (wants_none rfl) (yq_of (y_ldN2 0 Try.isAgg33 (fe_t rfl) rfl mx)) ?_
  refine tb_float (i := 4) rfl (by kernel_rfl) rfl (wants_none rfl) (yq_of (y_move (fe_t rfl))) ?_
  refine tb_float (i := 5) rfl (by kernel_rfl) rfl (wants_none rfl) (yq_of (y_nilCheck (fe_t rfl))) ?_
  refine tb_float (i := 6) rfl (by kernel_rfl) rfl (wants_none rfl) (yq_of (y_fieldAddr (td := 33) Try.underlying35 rfl rfl Try.sizeOf33 (o' := o_y + 1) rfl (fe_t rfl))) ?_
  refine tb_float (i := 7) rfl (by kernel_rfl) rfl (wants_none rfl) (yq_of (y_ldN2 0 Try.isAgg33 (fe_t rfl) rfl my)) ?_
  refine tb_float (i := 8) rfl (by kernel_rfl) rfl (wants_none rfl) (yq_of (y_assign (fe_t rfl))) ?_
  refine tb_float (i := 9) rfl (by kernel_rfl) rfl (wants_none rfl) (yq_of (y_assign (fe_t rfl))) ?_
  refine tb_done (by kernel_rfl) ?_
  refine tx_then ?_
  refine tr_seq ?_
  refine tr_seq ?_
  refine tr_region ?_
  refine tl_step rfl (oj_val (y_move (fe_t rfl)) ?_)
  refine tl_step rfl (oj_val (y_len Try.underlying33 (fe_t rfl)) ?_)
  refine tl_step rfl (oj_val (y_move (fe_t rfl)) ?_)
  refine tl_step rfl (oj_val (y_len Try.underlying33 (fe_t rfl)) ?_)
  refine tl_step rfl (oj_val (y_lss (fe_t rfl) (fe_t rfl)) ?_)
  refine tl_nil ?_
  refine tx_then ?_
  refine tr_condp (fe_t rfl) (fun hq1 => ?_) (fun hq2 => ?_)
  · refine tr_region ?_
    refine tl_step rfl (oj_val (y_move (fe_t rfl)) ?_)
    refine tl_step rfl (oj_val (y_move (fe_t rfl)) ?_)
    refine tl_step rfl (oj_val (y_assign (fe_t rfl)) ?_)
    refine tl_step rfl (oj_val (y_assign (fe_t rfl)) ?_)
    refine tl_nil ?_
    refine tx_then ?_
    refine tr_seq ?_
    refine tr_region ?_
    refine tl_step rfl (oj_slice0 Try.underlying33 Try.sizeOf153 (fun g1 => ?_))
    refine tl_step rfl (oj_val (y_move (fe_t rfl)) ?_)
    refine tl_step rfl (oj_appg (i := 0) (s := 1) (z := (.int .u32 0)) (bytes := 4) Try.underlying33 (by kernel_rfl) (fe_t rfl) (fe_t rfl) rfl (rdl_bag 1 rfl my) (by rw [cU_len, hy.len, Nat.mul_one]) (by decide) (by first | exact oneI | exact oneF (fun _ => rfl) | exact fun u hu => List.all_eq_true.1 (show List.all _ (fun x => x.oneCell') = true from rfl) u hu | (intro u hu; revert u hu; simp [Value.oneCell'])) ⟨by omega, by decide⟩ (fun Aa1 ca1 hca1 => ?_))
    refine tl_step rfl (oj_val (y_assign (fe_t rfl)) ?_)
    refine tl_nil ?_
    refine tx_then ?_
    refine tr_seq ?_
    refine tr_seq ?_
    refine tr_region ?_
    refine tl_step rfl (oj_val (y_move (fe_t rfl)) ?_)
    refine tl_step rfl (oj_val (y_len Try.underlying33 (fe_t rfl)) ?_)
    refine tl_step rfl (oj_val (y_move fe_c) ?_)
    refine tl_nil ?_
    refine tx_then ?_
    refine tr_block ?_
    refine tr_loop2 [10, 11, 32, 33, 34, 35, 36, 37, 38, 39, 40, 41, 42, 43, 44] (fun (k : Nat) (vx : List Value) => [(32, .int .i64 (k : Int))]) 0 (fun (k : Nat) (vx : List Value) => [(0, vec 153 1 (.slice Aa1 (0 + y.n) ca1) (0 + y.n) vx)]) (fun (k : Nat) (vx : List Value) => k ≤ x.n ∧ vx = cU (xrl y.ds (x.ds.take k))) (fun (k : Nat) (vx : List Value) => x.n - k) (0) (_) (cov_cons (by first | rfl | exact v_int (by omega) | exact v_bool (by simp [*])) (cov_nil)) (fun w h => h) ?_ ?_
    · try dsimp only
      exact ⟨by omega, by rw [List.take_zero, xrl_nil]; rfl⟩
    intro k vx hp
    obtain ⟨hk, hvx⟩ := hp
    refine tr_seq ?_
    refine tr_region ?_
    refine tl_step rfl (oj_val (y_lss (fe_t rfl) (fe_t rfl)) ?_)
    refine tl_nil ?_
    refine tx_then ?_
    refine tr_seq ?_
    refine tr_condp (fe_t rfl) (fun hq3 => ?_) (fun hq4 => ?_)
    · refine tr_skip ?_
      refine tx_then ?_
      refine tr_seq ?_
      refine tr_block ?_
      refine tr_seq ?_
      refine tr_region ?_
      refine tl_step rfl (oj_val (y_move (fe_t rfl)) ?_)
      refine tl_step rfl (oj_val (y_index Try.underlying33 Try.sizeOf153 (fe_t rfl) (fe_t rfl) (rdl_bag 1 rfl mx) (by rw [cU_len, hx.len, Nat.mul_one]) (by decide) (by omega) (Nat.mul_one _)) ?_)
      refine tl_step rfl (oj_val (y_ld (v := .int .u32 (x.ds[k]'(by omega))) Try.isAgg153 (fe_t rfl) (rdl_bag 1 rfl mx) (cU_get (by omega))) ?_)
      refine tl_step rfl (oj_val (y_assign (fe_t rfl)) ?_)
      refine tl_step rfl (oj_val (y_assign (fe_t rfl)) ?_)
      refine tl_nil ?_
      refine tx_then ?_
      have hak := hy.dig.get (k := k) (by omega)
      have hbk := hx.dig.get (k := k) (by omega)
      refine tr_region ?_
      refine tl_step rfl (oj_val (y_move (fe_t rfl)) ?_)
      refine tl_step rfl (oj_val (y_move (fe_t rfl)) ?_)
      refine tl_step rfl (oj_val (y_index Try.underlying33 Try.sizeOf153 (fe_t rfl) (fe_t rfl) (rdl_vec 0 rfl) (by rw [hvx, cU_len, xrl_len]; omega) (by decide) (by omega) (Nat.mul_one _)) ?_)
      refine tl_step rfl (oj_val (y_ld (v := .int .u32 (y.ds[k]'(by omega))) Try.isAgg153 (fe_t rfl) (rdl_vec 0 rfl) (by rw [hvx, cU, List.getElem?_map, List.getElem?_eq_getElem (by rw [xrl_len]; omega), xrl_get (by omega) (by rw [List.length_take]; omega)]; rfl)) ?_)
      refine tl_step rfl (oj_val (y_move (fe_t rfl)) ?_)
      refine tl_step rfl (oj_val (y_bits (.inr (.inr (.inl rfl))) (fe_t rfl) (fe_t rfl) (fun w => u32_xr _ _ hak hbk w)) ?_)
      refine tl_step rfl (oj_val (y_index Try.underlying33 Try.sizeOf153 (fe_t rfl) (fe_t rfl) (rdl_vec 0 rfl) (by rw [hvx, cU_len, xrl_len]; omega) (by decide) (by omega) (Nat.mul_one _)) ?_)
      refine tl_step rfl (oj_storeE1 (i := 0) Try.sizeOf153 (fe_t rfl) (fe_t rfl) rfl rfl rfl (by omega) (?_))
      refine tl_nil ?_
      refine tx_in ?_
      refine tx_then ?_
      refine tr_region ?_
      refine tl_step rfl (oj_val (y_inc (fe_t rfl) fe_c (by omega)) ?_)
      refine tl_step rfl (oj_val (y_move (fe_t rfl)) ?_)
      refine tl_nil ?_
      apply tx_back2 (k + 1) (_)
      · exact (cov_cons (by first | rfl | exact v_int (by omega) | exact v_bool (by simp [*])) (cov_nil))
      · repeat (first | exact over_nil | refine over_put rfl ?_ | refine over_drop rfl ?_)
      · exact fun w h => h
      · exact ⟨⟨by omega, by rw [hvx, cU, cU, ← List.map_set (f := Value.int .u32), xrl_set (by omega) (by omega)]⟩, by omega⟩
    · refine tr_exit ?_
      refine tx_then_exit ?_
      refine tx_then_exit ?_
      refine tx_in_exit ?_
      refine tx_then ?_
      refine tr_seq ?_
      obtain rfl : vx = cU (xrl y.ds x.ds) := by rw [hvx, List.take_of_length_le (by omega)]
      refine tr_region ?_
      refine tl_step rfl (oj_val (y_move (fe_t rfl)) ?_)
      refine tl_step rfl (oj_val (y_move (fe_t rfl)) ?_)
      refine tl_step rfl (oj_val (y_move (fe_t rfl)) ?_)
      refine tl_step rfl (oj_val (y_nilCheck (fe_t rfl)) ?_)
      refine tl_step rfl (oj_val (y_fieldAddr (td := 4) Try.underlying35 rfl rfl Try.sizeOf4 (o' := o) rfl (fe_t rfl)) ?_)
      refine tl_step rfl (oj_stN1 1 0 Try.sizeOf4 (fe_t rfl) fe_c rfl rfl (?_))
      refine tl_step rfl (oj_val (y_nilCheck (fe_t rfl)) ?_)
      refine tl_step rfl (oj_val (y_fieldAddr (td := 33) Try.underlying35 rfl rfl Try.sizeOf33 (o' := o + 1) rfl (fe_t rfl)) ?_)
      refine tl_step rfl (oj_stN3 (ds := (xrl y.ds x.ds)) 1 0 0 Try.sizeOf33 (fe_t rfl) (fe_t rfl) rfl rfl rfl rfl (fun D1 => ?_))
      refine tl_nil ?_
      refine tx_then ?_
      refine tr_seq ?_
      refine tr_region ?_
      refine tl_step rfl (oj_val (y_move (fe_t rfl)) ?_)
      refine tl_step rfl (oj_call2 Try.call126 fe_f (fel_cons (fe_t rfl) fel_nil) (fun w' hS => lift1 (p := fun n_ => n_.is (sg false (dval (xrl y.ds x.ds)))) 1 0 hS rfl rfl (fun T l' hm hS => trimB hS (by dsimp only; rw [xrl_len]; omega) hca1 (by dsimp only; omega) (xrl_dig hy.dig hx.dig))) (fun r1 hr1 => ?_))
      refine tl_step rfl (oj_val (y_assign (fe_t rfl)) ?_)
      refine tl_nil ?_
      refine tx_then ?_
      refine tr_ret ?_
      refine tx_ret (res1 Try.results136 (rok_t rfl)) (fun w' hS => ?_)
      rw [show sg false (dval (xrl y.ds x.ds)) = xr zx zy by rw [xrl_val hy.dig hx.dig (by omega), nm_abs hx, nm_abs hy, show ((zx.natAbs : Nat) : Int) = zx by omega, show ((zy.natAbs : Nat) : Int) = zy by omega]; exact xr_comm _ _] at hr1
      have hS := pickT (l := [_, _]) hS [1] rfl (by decide)
      have hS' : St w0 w' (bag _ _ ((⟨b, o, _⟩ : Ent) :: l) :: T) := hS
      exact fin1 hS' hr1
  · refine tr_skip ?_
    refine tx_then ?_
    refine tr_seq ?_
    refine tr_region ?_
    refine tl_step rfl (oj_slice0 Try.underlying33 Try.sizeOf153 (fun g2 => ?_))
    refine tl_step rfl (oj_val (y_move (fe_t rfl)) ?_)
    refine tl_step rfl (oj_appg (i := 0) (s := 1) (z := (.int .u32 0)) (bytes := 4) Try.underlying33 (by kernel_rfl) (fe_t rfl) (fe_t rfl) rfl (rdl_bag 1 rfl mx) (by rw [cU_len, hx.len, Nat.mul_one]) (by decide) (by first | exact oneI | exact oneF (fun _ => rfl) | exact fun u hu => List.all_eq_true.1 (show List.all _ (fun x => x.oneCell') = true from rfl) u hu | (intro u hu; revert u hu; simp [Value.oneCell'])) ⟨by omega, by decide⟩ (fun Aa2 ca2 hca2 => ?_))
    refine tl_step rfl (oj_val (y_assign (fe_t rfl)) ?_)
    refine tl_nil ?_
    refine tx_then ?_
    refine tr_seq ?_
    refine tr_seq ?_
    refine tr_region ?_
    refine tl_step rfl (oj_val (y_move (fe_t rfl)) ?_)
    refine tl_step rfl (oj_val (y_len Try.underlying33 (fe_t rfl)) ?_)
    refine tl_step rfl (oj_val (y_move fe_c) ?_)
    refine tl_nil ?_
    refine tx_then ?_
    refine tr_block ?_
    refine tr_loop2 [10, 11, 32, 33, 34, 35, 36, 37, 38, 39, 40, 41, 42, 43, 44] (fun (k : Nat) (vx : List Value) => [(32, .int .i64 (k : Int))]) 0 (fun (k : Nat) (vx : List Value) => [(0, vec 153 1 (.slice Aa2 (0 + x.n) ca2) (0 + x.n) vx)]) (fun (k : Nat) (vx : List Value) => k ≤ y.n ∧ vx = cU (xrl x.ds (y.ds.take k))) (fun (k : Nat) (vx : List Value) => y.n - k) (0) (_) (cov_cons (by first | rfl | exact v_int (by omega) | exact v_bool (by simp [*])) (cov_nil)) (fun w h => h) ?_ ?_
    · try dsimp only
      exact ⟨by omega, by rw [List.take_zero, xrl_nil]; rfl⟩
    intro k vx hp
    obtain ⟨hk, hvx⟩ := hp
    refine tr_seq ?_
    refine tr_region ?_
    refine tl_step rfl (oj_val (y_lss (fe_t rfl) (fe_t rfl)) ?_)
    refine tl_nil ?_
    refine tx_then ?_
    refine tr_seq ?_
    refine tr_condp (fe_t rfl) (fun hq5 => ?_) (fun hq6 => ?_)
    · refine tr_skip ?_
      refine tx_then ?_
      refine tr_seq ?_
      refine tr_block ?_
      refine tr_seq ?_
      refine tr_region ?_
      refine tl_step rfl (oj_val (y_move (fe_t rfl)) ?_)
      refine tl_step rfl (oj_val (y_index Try.underlying33 Try.sizeOf153 (fe_t rfl) (fe_t rfl) (rdl_bag 1 rfl my) (by rw [cU_len, hy.len, Nat.mul_one]) (by decide) (by omega) (Nat.mul_one _)) ?_)
      refine tl_step rfl (oj_val (y_ld (v := .int .u32 (y.ds[k]'(by omega))) Try.isAgg153 (fe_t rfl) (rdl_bag 1 rfl my) (cU_get (by omega))) ?_)
      refine tl_step rfl (oj_val (y_assign (fe_t rfl)) ?_)
      refine tl_step rfl (oj_val (y_assign (fe_t rfl)) ?_)
      refine tl_nil ?_
      refine tx_then ?_
      have hak := hx.dig.get (k := k) (by omega)
      have hbk := hy.dig.get (k := k) (by omega)
      refine tr_region ?_
      refine tl_step rfl (oj_val (y_move (fe_t rfl)) ?_)
      refine tl_step rfl (oj_val (y_move (fe_t rfl)) ?_)
      refine tl_step rfl (oj_val (y_index Try.underlying33 Try.sizeOf153 (fe_t rfl) (fe_t rfl) (rdl_vec 0 rfl) (by rw [hvx, cU_len, xrl_len]; omega) (by decide) (by omega) (Nat.mul_one _)) ?_)
      refine tl_step rfl (oj_val (y_ld (v := .int .u32 (x.ds[k]'(by omega))) Try.isAgg153 (fe_t rfl) (rdl_vec 0 rfl) (by rw [hvx, cU, List.getElem?_map, List.getElem?_eq_getElem (by rw [xrl_len]; omega), xrl_get (by omega) (by rw [List.length_take]; omega)]; rfl)) ?_)
      refine tl_step rfl (oj_val (y_move (fe_t rfl)) ?_)
      refine tl_step rfl (oj_val (y_bits (.inr (.inr (.inl rfl))) (fe_t rfl) (fe_t rfl) (fun w => u32_xr _ _ hak hbk w)) ?_)
      refine tl_step rfl (oj_val (y_index Try.underlying33 Try.sizeOf153 (fe_t rfl) (fe_t rfl) (rdl_vec 0 rfl) (by rw [hvx, cU_len, xrl_len]; omega) (by decide) (by omega) (Nat.mul_one _)) ?_)
      refine tl_step rfl (oj_storeE1 (i := 0) Try.sizeOf153 (fe_t rfl) (fe_t rfl) rfl rfl rfl (by omega) (?_))
      refine tl_nil ?_
      refine tx_in ?_
      refine tx_then ?_
      refine tr_region ?_
      refine tl_step rfl (oj_val (y_inc (fe_t rfl) fe_c (by omega)) ?_)
      refine tl_step rfl (oj_val (y_move (fe_t rfl)) ?_)
      refine tl_nil ?_
      apply tx_back2 (k + 1) (_)
      · exact (cov_cons (by first | rfl | exact v_int (by omega) | exact v_bool (by simp [*])) (cov_nil))
      · repeat (first | exact over_nil | refine over_put rfl ?_ | refine over_drop rfl ?_)
      · exact fun w h => h
      · exact ⟨⟨by omega, by rw [hvx, cU, cU, ← List.map_set (f := Value.int .u32), xrl_set (by omega) (by omega)]⟩, by omega⟩
    · refine tr_exit ?_
      refine tx_then_exit ?_
      refine tx_then_exit ?_
      refine tx_in_exit ?_
      refine tx_then ?_
      refine tr_seq ?_
      obtain rfl : vx = cU (xrl x.ds y.ds) := by rw [hvx, List.take_of_length_le (by omega)]
      refine tr_region ?_
      refine tl_step rfl (oj_val (y_move (fe_t rfl)) ?_)
      refine tl_step rfl (oj_val (y_move (fe_t rfl)) ?_)
      refine tl_step rfl (oj_val (y_move (fe_t rfl)) ?_)
      refine tl_step rfl (oj_val (y_nilCheck (fe_t rfl)) ?_)
      refine tl_step rfl (oj_val (y_fieldAddr (td := 4) Try.underlying35 rfl rfl Try.sizeOf4 (o' := o) rfl (fe_t rfl)) ?_)
      refine tl_step rfl (oj_stN1 1 0 Try.sizeOf4 (fe_t rfl) fe_c rfl rfl (?_))
      refine tl_step rfl (oj_val (y_nilCheck (fe_t rfl)) ?_)
      refine tl_step rfl (oj_val (y_fieldAddr (td := 33) Try.underlying35 rfl rfl Try.sizeOf33 (o' := o + 1) rfl (fe_t rfl)) ?_)
      refine tl_step rfl (oj_stN3 (ds := (xrl x.ds y.ds)) 1 0 0 Try.sizeOf33 (fe_t rfl) (fe_t rfl) rfl rfl rfl rfl (fun D2 => ?_))
      refine tl_nil ?_
      refine tx_then ?_
      refine tr_seq ?_
      refine tr_region ?_
      refine tl_step rfl (oj_val (y_move (fe_t rfl)) ?_)
      refine tl_step rfl (oj_call2 Try.call126 fe_f (fel_cons (fe_t rfl) fel_nil) (fun w' hS => lift1 (p := fun n_ => n_.is (sg false (dval (xrl x.ds y.ds)))) 1 0 hS rfl rfl (fun T l' hm hS => trimB hS (by dsimp only; rw [xrl_len]; omega) hca2 (by dsimp only; omega) (xrl_dig hx.dig hy.dig))) (fun r2 hr2 => ?_))
      refine tl_step rfl (oj_val (y_assign (fe_t rfl)) ?_)
      refine tl_nil ?_
      refine tx_then ?_
      refine tr_ret ?_
      refine tx_ret (res1 Try.results136 (rok_t rfl)) (fun w' hS => ?_)
      rw [show sg false (dval (xrl x.ds y.ds)) = xr zx zy by rw [xrl_val hx.dig hy.dig (by omega), nm_abs hx, nm_abs hy, show ((zx.natAbs : Nat) : Int) = zx by omega, show ((zy.natAbs : Nat) : Int) = zy by omega]; rfl] at hr2
      have hS := pickT (l := [_, _]) hS [1] rfl (by decide)
      have hS' : St w0 w' (bag _ _ ((⟨b, o, _⟩ : Ent) :: l) :: T) := hS
      exact fin1 hS' hr2

end Go.Proofs.Ytcpdelkamckmfaa.Frac
