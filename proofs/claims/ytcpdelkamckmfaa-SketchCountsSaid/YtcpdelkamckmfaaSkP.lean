/- the sketch: Place, VPlace. -/
import Derived.Test.YtcpdelkamckmfaaSkY
import Derived.Test.YtcpdelkamckmfaaSkS
namespace Go.Proofs.Ytcpdelkamckmfaa.Frac
open Go.RowKit Go.Proofs.Ytcpdelkamckmfaa.E Go.Proofs.Ytcpdelkamckmfaa.Big

theorem shr29 {a : Int} (h : 0 ≤ a) : a.fdiv (2 ^ (min (29 : Int).toNat IntKind.u64.bits)) = a / 536870912 := by
  rw [show (2 : Int) ^ (min (29 : Int).toNat IntKind.u64.bits) = 536870912 from by decide]
  exact Int.fdiv_eq_ediv_of_nonneg _ (by decide)
theorem shr33 {a : Int} (h : 0 ≤ a) : a.fdiv (2 ^ (min (33 : Int).toNat IntKind.u64.bits)) = a / 8589934592 := by
  rw [show (2 : Int) ^ (min (33 : Int).toNat IntKind.u64.bits) = 8589934592 from by decide]
  exact Int.fdiv_eq_ediv_of_nonneg _ (by decide)
theorem getDI {zs : List Int} {j : Nat} (h : j < zs.length) : (zs.map (Value.int .i64))[j]? = some (.int .i64 (zs.getD j 0)) := by
  simp [h]
theorem getD_at {zs : List Int} {j : Nat} (h : j < zs.length) : zs.getD j 0 = zs[j] := by simp [List.getD_eq_getElem?_getD, h]
theorem good_getD {r x : Int} {zs : List Int} (h : Sketch.vright r x zs = true) (j : Nat) (hj : j < zs.length) : 0 ≤ zs.getD j 0 ∧ zs.getD j 0 ≤ 1099511627776 := by
  rw [getD_at hj]
  exact Sketch.good_cells h j hj
theorem cI_spots {width id : Int} {r k : Nat} (h : k < r) : (cI (spots width id r))[k]? = some (.int .i64 ((k : Int) * width + spot k width id)) := by
  rw [cI, List.getElem?_map, List.getElem?_eq_getElem (by rw [spots_len]; exact h), spots_get]
  rfl
theorem cI_upd {zs : List Int} {f : Int → Int} {width id : Int} (hw : 1 ≤ width) {k : Nat} (hk : ((k : Int) * width + spot k width id).toNat < zs.length) : (cI (upd zs f width id k))[((k : Int) * width + spot k width id).toNat]? = some (.int .i64 (zs.getD ((k : Int) * width + spot k width id).toNat 0)) := by
  rw [cI, List.getElem?_map, List.getElem?_eq_getElem (by rw [upd_len]; exact hk), upd_own zs f hw k hk, getD_at hk]
  rfl
theorem vright_facts {r x : Int} {zs : List Int} (h : Sketch.vright r x zs = true) : (1 ≤ r ∧ r ≤ 8) ∧ (1 ≤ x ∧ x ≤ 64) ∧ (zs.length : Int) = r * x := by
  simp only [Sketch.vright, Bool.and_eq_true, beq_iff_eq] at h
  have := Sketch.dims_iff.1 h.1.1
  exact ⟨this.1, this.2, h.1.2⟩
theorem least_bd {r x id : Int} {zs : List Int} (h : Sketch.vright r x zs = true) : ∀ k : Nat, (k : Int) ≤ r → 0 ≤ least zs x id k ∧ (0 < k → least zs x id k ≤ 1099511627776)
  | 0, _ => ⟨by rw [show least zs x id 0 = 2199023255552 from rfl]; decide, fun h => by omega⟩
  | k + 1, hk => by
    obtain ⟨h1, h2, h3⟩ := vright_facts h
    have h4 := (least_bd (id := id) h k (by omega)).1
    obtain ⟨R, rfl⟩ := Int.eq_ofNat_of_zero_le (show 0 ≤ r by omega)
    have h5 := spots_bd (width := x) (id := id) (r := R) (k := k) (by omega) (by omega)
    have h6 := good_getD h ((k : Int) * x + spot k x id).toNat (by omega)
    rw [least_succ]
    omega

theorem rsh29 {w0 w : World} {T : List Res} {H D : List Nat} {l : List Ent} {b o : Nat} {q : Nm} (hS : St w0 w (bag H D (⟨b, o, q⟩ :: l) :: T)) {b_x o_x : Nat} {x : Nm} {zx : Int} (mx : (⟨b_x, o_x, x⟩ : Ent) ∈ (⟨b, o, q⟩ : Ent) :: l) (hx : x.is zx) (lx : x.n ≤ 100000) (h0 : 0 ≤ zx) :
    Calls Try.prog 123 #[.pointer (some ⟨b, o, none⟩), .pointer (some ⟨b_x, o_x, none⟩), .int .u64 29] w fun e w' => ∃ r : B1, r.q.is (zx / 536870912) ∧ e = .returned (.pointer (some ⟨b, o, none⟩)) ∧ St w0 w' (bag r.H r.D (⟨b, o, r.q⟩ :: l) :: T) := by
  have := rshB hS mx hx lx 29 (by decide) h0
  rw [show zx / 2 ^ 29 = zx / 536870912 from rfl] at this
  exact this

theorem rsh33 {w0 w : World} {T : List Res} {H D : List Nat} {l : List Ent} {b o : Nat} {q : Nm} (hS : St w0 w (bag H D (⟨b, o, q⟩ :: l) :: T)) {b_x o_x : Nat} {x : Nm} {zx : Int} (mx : (⟨b_x, o_x, x⟩ : Ent) ∈ (⟨b, o, q⟩ : Ent) :: l) (hx : x.is zx) (lx : x.n ≤ 100000) (h0 : 0 ≤ zx) :
    Calls Try.prog 123 #[.pointer (some ⟨b, o, none⟩), .pointer (some ⟨b_x, o_x, none⟩), .int .u64 33] w fun e w' => ∃ r : B1, r.q.is (zx / 8589934592) ∧ e = .returned (.pointer (some ⟨b, o, none⟩)) ∧ St w0 w' (bag r.H r.D (⟨b, o, r.q⟩ :: l) :: T) := by
  have := rshB hS mx hx lx 33 (by decide) h0
  rw [show zx / 2 ^ 33 = zx / 8589934592 from rfl] at this
  exact this

set_option maxRecDepth 100000 in
theorem place_bad (row width id : Int) (w : World) (h : row < 0 ∨ 7 < row ∨ width < 1 ∨ 64 < width) :
    Calls Try.prog 58 #[(.int .i64 row), (.int .i64 width), .int .u64 id] w fun e w' => e = .returned (.tuple #[(.int .i64 0), (.int .i64 2)]) ∧ St w w' [] := by
  refine calls_tr Try.func58 Try.ntmps58 rfl rfl (St.refl _) ?_
  refine tr_seq ?_
  refine tr_region ?_
  refine tl_step rfl (oj_val (y_assign fe_c) ?_)
  refine tl_step rfl (oj_val (y_assign fe_c) ?_)
  refine tl_nil ?_
  refine tx_then ?_
  refine tr_seq ?_
  refine tr_seq ?_
  refine tr_region ?_
  refine tl_step rfl (oj_val (y_move (fe_t rfl)) ?_)
  refine tl_step rfl (oj_val (y_lss (fe_t rfl) fe_c) ?_)
  refine tl_step rfl (oj_val (y_move (fe_t rfl)) ?_)
  refine tl_splitp (d := 11) rfl (fun hq1 => ?_) (fun hq2 => ?_)
  · try (exfalso; omega)
    all_goals
      refine tl_skip rfl rfl rfl rfl ?_
      refine tl_skip rfl rfl rfl rfl ?_
      refine tl_step rfl (oj_val (y_pickt (fe_t rfl) fe_c) ?_)
      refine tl_step rfl (oj_val (y_move (fe_t rfl)) ?_)
      refine tl_skip rfl rfl rfl rfl ?_
      refine tl_skip rfl rfl rfl rfl ?_
      refine tl_step rfl (oj_val (y_pickt (fe_t rfl) fe_c) ?_)
      refine tl_step rfl (oj_val (y_move (fe_t rfl)) ?_)
      refine tl_skip rfl rfl rfl rfl ?_
      refine tl_skip rfl rfl rfl rfl ?_
      refine tl_step rfl (oj_val (y_pickt (fe_t rfl) fe_c) ?_)
      refine tl_nil ?_
      refine tx_then ?_
      refine tr_condt (fe_t rfl) ?_
      refine tr_seq ?_
      refine tr_region ?_
      refine tl_step rfl (oj_val (y_assign fe_c) ?_)
      refine tl_step rfl (oj_val (y_assign fe_c) ?_)
      refine tl_nil ?_
      refine tx_then ?_
      refine tr_ret ?_
      refine tx_then_ret ?_
      refine tx_ret (res2 Try.results58 (rok_t rfl) (rok_t rfl)) (fun w' hS => ?_)
      exact ⟨rfl, hS.pick [] _ rfl (by decide)⟩
  · try (exfalso; omega)
    all_goals
      refine tl_want rfl rfl rfl (oj_val (y_move (fe_t rfl)) ?_)
      refine tl_want rfl rfl rfl (oj_val (y_gtr (fe_t rfl) fe_c) ?_)
      refine tl_step rfl (oj_val (y_pickf (fe_t rfl) (fe_t rfl)) ?_)
      refine tl_step rfl (oj_val (y_move (fe_t rfl)) ?_)
      refine tl_splitp (d := 15) rfl (fun hq3 => ?_) (fun hq4 => ?_)
      · try (exfalso; omega)
        all_goals
          refine tl_skip rfl rfl rfl rfl ?_
          refine tl_skip rfl rfl rfl rfl ?_
          refine tl_step rfl (oj_val (y_pickt (fe_t rfl) fe_c) ?_)
          refine tl_step rfl (oj_val (y_move (fe_t rfl)) ?_)
          refine tl_skip rfl rfl rfl rfl ?_
          refine tl_skip rfl rfl rfl rfl ?_
          refine tl_step rfl (oj_val (y_pickt (fe_t rfl) fe_c) ?_)
          refine tl_nil ?_
          refine tx_then ?_
          refine tr_condt (fe_t rfl) ?_
          refine tr_seq ?_
          refine tr_region ?_
          refine tl_step rfl (oj_val (y_assign fe_c) ?_)
          refine tl_step rfl (oj_val (y_assign fe_c) ?_)
          refine tl_nil ?_
          refine tx_then ?_
          refine tr_ret ?_
          refine tx_then_ret ?_
          refine tx_ret (res2 Try.results58 (rok_t rfl) (rok_t rfl)) (fun w' hS => ?_)
          exact ⟨rfl, hS.pick [] _ rfl (by decide)⟩
      · try (exfalso; omega)
        all_goals
          refine tl_want rfl rfl rfl (oj_val (y_move (fe_t rfl)) ?_)
          refine tl_want rfl rfl rfl (oj_val (y_lss (fe_t rfl) fe_c) ?_)
          refine tl_step rfl (oj_val (y_pickf (fe_t rfl) (fe_t rfl)) ?_)
          refine tl_step rfl (oj_val (y_move (fe_t rfl)) ?_)
          refine tl_splitp (d := 19) rfl (fun hq5 => ?_) (fun hq6 => ?_)
          · try (exfalso; omega)
            all_goals
              refine tl_skip rfl rfl rfl rfl ?_
              refine tl_skip rfl rfl rfl rfl ?_
              refine tl_step rfl (oj_val (y_pickt (fe_t rfl) fe_c) ?_)
              refine tl_nil ?_
              refine tx_then ?_
              refine tr_condt (fe_t rfl) ?_
              refine tr_seq ?_
              refine tr_region ?_
              refine tl_step rfl (oj_val (y_assign fe_c) ?_)
              refine tl_step rfl (oj_val (y_assign fe_c) ?_)
              refine tl_nil ?_
              refine tx_then ?_
              refine tr_ret ?_
              refine tx_then_ret ?_
              refine tx_ret (res2 Try.results58 (rok_t rfl) (rok_t rfl)) (fun w' hS => ?_)
              exact ⟨rfl, hS.pick [] _ rfl (by decide)⟩
          · try (exfalso; omega)
            all_goals
              refine tl_want rfl rfl rfl (oj_val (y_move (fe_t rfl)) ?_)
              refine tl_want rfl rfl rfl (oj_val (y_gtr (fe_t rfl) fe_c) ?_)
              refine tl_step rfl (oj_val (y_pickf (fe_t rfl) (fe_t rfl)) ?_)
              refine tl_nil ?_
              refine tx_then ?_
              refine tr_condp (fe_t rfl) (fun hq7 => ?_) (fun hq8 => ?_)
              · try (exfalso; omega)
                all_goals
                  refine tr_seq ?_
                  refine tr_region ?_
                  refine tl_step rfl (oj_val (y_assign fe_c) ?_)
                  refine tl_step rfl (oj_val (y_assign fe_c) ?_)
                  refine tl_nil ?_
                  refine tx_then ?_
                  refine tr_ret ?_
                  refine tx_then_ret ?_
                  refine tx_ret (res2 Try.results58 (rok_t rfl) (rok_t rfl)) (fun w' hS => ?_)
                  exact ⟨rfl, hS.pick [] _ rfl (by decide)⟩
              · exfalso; omega

set_option maxRecDepth 100000 in
theorem place_ok {row width id : Int} (w : World) (r0 : 0 ≤ row) (r1 : row ≤ 7) (w0 : 1 ≤ width) (w1 : width ≤ 64) (i0 : 0 ≤ id) (i1 : id < 18446744073709551616) :
    Calls Try.prog 58 #[(.int .i64 row), (.int .i64 width), .int .u64 id] w fun e w' => e = .returned (.tuple #[(.int .i64 (spot row width id)), (.int .i64 0)]) ∧ St w w' [] := by
  have hm1 := mix1_bd row id
  have hm2 := mix2_bd row id
  have hm3 := mix3_bd row id
  refine calls_tr Try.func58 Try.ntmps58 rfl rfl (St.refl _) ?_
  refine tr_seq ?_
  refine tr_region ?_
  refine tl_step rfl (oj_val (y_assign fe_c) ?_)
  refine tl_step rfl (oj_val (y_assign fe_c) ?_)
  refine tl_nil ?_
  refine tx_then ?_
  refine tr_seq ?_
  refine tr_seq ?_
  refine tr_region ?_
  refine tl_step rfl (oj_val (y_move (fe_t rfl)) ?_)
  refine tl_step rfl (oj_val (y_lss (fe_t rfl) fe_c) ?_)
  refine tl_step rfl (oj_val (y_move (fe_t rfl)) ?_)
  refine tl_splitp (d := 11) rfl (fun hq1 => ?_) (fun hq2 => ?_)
  · try (exfalso; omega)
    all_goals
      refine tl_skip rfl rfl rfl rfl ?_
      refine tl_skip rfl rfl rfl rfl ?_
      refine tl_step rfl (oj_val (y_pickt (fe_t rfl) fe_c) ?_)
      refine tl_step rfl (oj_val (y_move (fe_t rfl)) ?_)
      refine tl_skip rfl rfl rfl rfl ?_
      refine tl_skip rfl rfl rfl rfl ?_
      refine tl_step rfl (oj_val (y_pickt (fe_t rfl) fe_c) ?_)
      refine tl_step rfl (oj_val (y_move (fe_t rfl)) ?_)
      refine tl_skip rfl rfl rfl rfl ?_
      refine tl_skip rfl rfl rfl rfl ?_
      refine tl_step rfl (oj_val (y_pickt (fe_t rfl) fe_c) ?_)
      refine tl_nil ?_
      refine tx_then ?_
      exfalso; omega
  · try (exfalso; omega)
    all_goals
      refine tl_want rfl rfl rfl (oj_val (y_move (fe_t rfl)) ?_)
      refine tl_want rfl rfl rfl (oj_val (y_gtr (fe_t rfl) fe_c) ?_)
      refine tl_step rfl (oj_val (y_pickf (fe_t rfl) (fe_t rfl)) ?_)
      refine tl_step rfl (oj_val (y_move (fe_t rfl)) ?_)
      refine tl_splitp (d := 15) rfl (fun hq3 => ?_) (fun hq4 => ?_)
      · try (exfalso; omega)
        all_goals
          refine tl_skip rfl rfl rfl rfl ?_
          refine tl_skip rfl rfl rfl rfl ?_
          refine tl_step rfl (oj_val (y_pickt (fe_t rfl) fe_c) ?_)
          refine tl_step rfl (oj_val (y_move (fe_t rfl)) ?_)
          refine tl_skip rfl rfl rfl rfl ?_
          refine tl_skip rfl rfl rfl rfl ?_
          refine tl_step rfl (oj_val (y_pickt (fe_t rfl) fe_c) ?_)
          refine tl_nil ?_
          refine tx_then ?_
          exfalso; omega
      · try (exfalso; omega)
        all_goals
          refine tl_want rfl rfl rfl (oj_val (y_move (fe_t rfl)) ?_)
          refine tl_want rfl rfl rfl (oj_val (y_lss (fe_t rfl) fe_c) ?_)
          refine tl_step rfl (oj_val (y_pickf (fe_t rfl) (fe_t rfl)) ?_)
          refine tl_step rfl (oj_val (y_move (fe_t rfl)) ?_)
          refine tl_splitp (d := 19) rfl (fun hq5 => ?_) (fun hq6 => ?_)
          · try (exfalso; omega)
            all_goals
              refine tl_skip rfl rfl rfl rfl ?_
              refine tl_skip rfl rfl rfl rfl ?_
              refine tl_step rfl (oj_val (y_pickt (fe_t rfl) fe_c) ?_)
              refine tl_nil ?_
              refine tx_then ?_
              exfalso; omega
          · try (exfalso; omega)
            all_goals
              refine tl_want rfl rfl rfl (oj_val (y_move (fe_t rfl)) ?_)
              refine tl_want rfl rfl rfl (oj_val (y_gtr (fe_t rfl) fe_c) ?_)
              refine tl_step rfl (oj_val (y_pickf (fe_t rfl) (fe_t rfl)) ?_)
              refine tl_nil ?_
              refine tx_then ?_
              refine tr_condp (fe_t rfl) (fun hq7 => ?_) (fun hq8 => ?_)
              · exfalso; omega
              · try (exfalso; omega)
                all_goals
                  refine tr_skip ?_
                  refine tx_then ?_
                  refine tr_seq ?_
                  refine tr_region ?_
                  refine tl_step rfl (oj_val (y_move (fe_t rfl)) ?_)
                  refine tl_step rfl (oj_val (y_move (fe_t rfl)) ?_)
                  refine tl_step rfl (oj_val (y_convi Try.underlying3 Try.underlying41 (fe_t rfl) (IntWalk.u64_in _ (by omega))) ?_)
                  refine tl_step rfl (oj_val (y_as (y_mulk fe_c (fe_t rfl)) (IntWalk.u64_in _ (by omega))) ?_)
                  refine tl_step rfl (oj_val (y_as (y_addk (fe_t rfl) fe_c) (IntWalk.u64_in _ (by omega))) ?_)
                  refine tl_step rfl (oj_val (y_as (y_mulk (fe_t rfl) (fe_t rfl)) (show _ = mix1 row id from u64_wrap _)) ?_)
                  refine tl_step rfl (oj_val (y_assign (fe_t rfl)) ?_)
                  refine tl_nil ?_
                  refine tx_then ?_
                  refine tr_seq ?_
                  refine tr_region ?_
                  refine tl_step rfl (oj_val (y_move (fe_t rfl)) ?_)
                  refine tl_step rfl (oj_val (y_move (fe_t rfl)) ?_)
                  refine tl_step rfl (oj_val (y_as (y_shr (fe_t rfl) fe_c (by decide)) (shr29 hm1.1)) ?_)
                  refine tl_step rfl (oj_val (y_bits (.inr (.inr (.inl rfl))) (fe_t rfl) (fe_t rfl) (fun w => u64_xr _ _ hm1 (by omega) w)) ?_)
                  refine tl_step rfl (oj_val (y_assign (fe_t rfl)) ?_)
                  refine tl_nil ?_
                  refine tx_then ?_
                  refine tr_seq ?_
                  refine tr_region ?_
                  refine tl_step rfl (oj_val (y_move (fe_t rfl)) ?_)
                  refine tl_step rfl (oj_val (y_as (y_mulk (fe_t rfl) fe_c) (show _ = mix3 row id from u64_wrap _)) ?_)
                  refine tl_step rfl (oj_val (y_assign (fe_t rfl)) ?_)
                  refine tl_nil ?_
                  refine tx_then ?_
                  refine tr_seq ?_
                  refine tr_region ?_
                  refine tl_step rfl (oj_val (y_move (fe_t rfl)) ?_)
                  refine tl_step rfl (oj_val (y_as (y_shr (fe_t rfl) fe_c (by decide)) (shr33 hm3.1)) ?_)
                  refine tl_step rfl (oj_val (y_convi Try.underlying41 Try.underlying3 (fe_t rfl) (IntWalk.i64_in _ (by omega))) ?_)
                  refine tl_step rfl (oj_val (y_move (fe_t rfl)) ?_)
                  refine tl_step rfl (oj_val (y_rem (fe_t rfl) (fe_t rfl) (by omega)) ?_)
                  refine tl_step rfl (oj_val (y_assign (fe_t rfl)) ?_)
                  refine tl_step rfl (oj_val (y_assign fe_c) ?_)
                  refine tl_nil ?_
                  refine tx_then ?_
                  refine tr_ret ?_
                  refine tx_ret (res2 Try.results58 (rok_t rfl) (rok_t rfl)) (fun w' hS => ?_)
                  exact ⟨rfl, hS.pick [] _ rfl (by decide)⟩

set_option maxRecDepth 100000 in
set_option maxHeartbeats 4000000 in
theorem vplace_ok {row width id : Int} (w : World) (r0 : 0 ≤ row) (r1 : row ≤ 7) (w0 : 1 ≤ width) (w1 : width ≤ 64) (i0 : 0 ≤ id) (i1 : id < 18446744073709551616) :
    Calls Try.prog 62 #[(.int .i64 row), (.int .i64 width), .int .u64 id] w fun e w' => e = .returned ((.int .i64 (spot row width id))) ∧ St w w' [] := by
  have hm1 := mix1_bd row id
  have hm2 := mix2_bd row id
  have hm3 := mix3_bd row id
  have hsp := spot_bd (row := row) (width := width) (id := id) w0
  have hsq : 0 ≤ mix3 row id / 8589934592 % width ∧ mix3 row id / 8589934592 % width < width := hsp
  have sM : Sm ((1) * 18446744073709551616) := sm_big (by omega) (by omega)
  refine calls_tr Try.func62 Try.ntmps62 rfl rfl (St.refl _) ?_
  refine tr_seq ?_
  refine tr_region ?_
  refine tl_step rfl (oj_val (y_assign fe_c) ?_)
  refine tl_nil ?_
  refine tx_then ?_
  refine tr_seq ?_
  refine tr_add (r := bag [] [] []) bag_nil rfl ?_
  refine tr_region ?_
  refine tl_step rfl (oj_allocN 0 Try.zeroValue35 rfl (fun b_al H_al => ?_))
  refine tl_step rfl (oj_call2 Try.call111 fe_f (fel_cons fe_c fel_nil) (fun w' hS => lift 0 hS rfl (fun T hS => newB hS 1 (by omega) (by omega))) (fun r1 hr1 => ?_))
  refine tl_step rfl (oj_call2 Try.call118 fe_f (fel_cons (fe_t rfl) (fel_cons (fe_t rfl) (fel_cons fe_c fel_nil))) (fun w' hS => lift1 (p := fun n_ => n_.is ((1) * 18446744073709551616)) 0 1 hS rfl rfl (fun T l' hm hS => lsh64 hS (hm _ (pget_mem 0 rfl)) hr1 (Nat.le_trans (nm_sm hr1 (sm_of (by omega) (by omega))) (by decide)))) (fun r2 hr2 => ?_))
  refine tl_step rfl (oj_val (y_assign (fe_t rfl)) ?_)
  refine tl_nil ?_
  refine tx_then ?_
  refine tr_seq ?_
  refine tr_region ?_
  refine tl_step rfl (oj_val (y_move (fe_t rfl)) ?_)
  refine tl_step rfl (oj_call2 Try.call30 fe_f (fel_cons (fe_t rfl) fel_nil) (fun w' hS => lift 0 hS rfl (fun T hS => aofW hS id (by omega) (by omega))) (fun r3 hr3 => ?_))
  refine tl_step rfl (oj_val (y_assign (fe_t rfl)) ?_)
  refine tl_nil ?_
  refine tx_then ?_
  refine tr_seq ?_
  refine tr_region ?_
  refine tl_step rfl (oj_call2 Try.call30 fe_f (fel_cons fe_c fel_nil) (fun w' hS => lift 0 hS rfl (fun T hS => aofW hS 11400714819323198485 (by omega) (by omega))) (fun r4 hr4 => ?_))
  refine tl_step rfl (oj_val (y_assign (fe_t rfl)) ?_)
  refine tl_nil ?_
  refine tx_then ?_
  refine tr_seq ?_
  refine tr_region ?_
  refine tl_step rfl (oj_val (y_move (fe_t rfl)) ?_)
  refine tl_step rfl (oj_val (y_move (fe_t rfl)) ?_)
  refine tl_step rfl (oj_val (y_move (fe_t rfl)) ?_)
  refine tl_step rfl (oj_val (y_move (fe_t rfl)) ?_)
  refine tl_step rfl (oj_val (y_move (fe_t rfl)) ?_)
  refine tl_step rfl (oj_val (y_mul fe_c (fe_t rfl) (by omega)) ?_)
  refine tl_step rfl (oj_call2 Try.call111 fe_f (fel_cons (fe_t rfl) fel_nil) (fun w' hS => lift 0 hS rfl (fun T hS => newB hS (2 * row) (by omega) (by omega))) (fun r5 hr5 => ?_))
  refine tl_step rfl (oj_call2 Try.call41 fe_f (fel_cons (fe_t rfl) (fel_cons (fe_t rfl) (fel_cons (fe_t rfl) fel_nil))) (fun w' hS => lift1 (p := fun n_ => n_.is (11400714819323198485 + (2 * row))) 0 1 hS rfl rfl (fun T l' hm hS => addB hS (hm _ (pget_mem 1 rfl)) (hm _ (pget_mem 0 rfl)) hr4 hr5 (sm_of (by omega) (by omega)) (sm_of (by omega) (by omega)))) (fun r6 hr6 => ?_))
  refine tl_step rfl (oj_call2 Try.call46 fe_f (fel_cons (fe_t rfl) (fel_cons (fe_t rfl) (fel_cons (fe_t rfl) fel_nil))) (fun w' hS => lift1 (p := fun n_ => n_.is (id * (11400714819323198485 + (2 * row)))) 0 2 hS rfl rfl (fun T l' hm hS => mulB hS (hm _ (pget_mem 2 rfl)) (hm _ (pget_mem 1 rfl)) hr3 hr6 (Nat.le_trans (nm_sm hr3 (sm_of (by omega) (by omega))) (by decide)) (Nat.le_trans (nm_sm hr6 (sm_of (by omega) (by omega))) (by decide)))) (fun r7 hr7 => ?_))
  refine tl_nil ?_
  refine tx_then ?_
  refine tr_seq ?_
  have hp1 := wprod (a := id) (b := 11400714819323198485 + (2 * row)) (by omega) (by omega)
  refine tr_region ?_
  refine tl_step rfl (oj_val (y_move (fe_t rfl)) ?_)
  refine tl_step rfl (oj_val (y_move (fe_t rfl)) ?_)
  refine tl_step rfl (oj_val (y_move (fe_t rfl)) ?_)
  refine tl_step rfl (oj_call2 Try.call121 fe_f (fel_cons (fe_t rfl) (fel_cons (fe_t rfl) (fel_cons (fe_t rfl) fel_nil))) (fun w' hS => lift1 (p := fun n_ => n_.is ((id * (11400714819323198485 + (2 * row))) % ((1) * 18446744073709551616))) 0 2 hS rfl rfl (fun T l' hm hS => modB hS (hm _ (pget_mem 2 rfl)) (hm _ (pget_mem 4 rfl)) hr7 hr2 (by omega) (sm_of (by omega) (by omega)) sM)) (fun r8 hr8 => ?_))
  refine tl_nil ?_
  refine tx_then ?_
  refine tr_seq ?_
  rw [show ((id * (11400714819323198485 + (2 * row))) % ((1) * 18446744073709551616) : Int) = mix1 row id from by unfold mix1; rw [Int.one_mul, Int.add_comm 11400714819323198485]] at hr8
  refine tr_region ?_
  refine tl_step rfl (oj_val (y_move (fe_t rfl)) ?_)
  refine tl_step rfl (oj_val (y_move (fe_t rfl)) ?_)
  refine tl_step rfl (oj_allocN 0 Try.zeroValue35 rfl (fun b_y H_y => ?_))
  refine tl_step rfl (oj_val (y_move (fe_t rfl)) ?_)
  refine tl_step rfl (oj_call2 Try.call123 fe_f (fel_cons (fe_t rfl) (fel_cons (fe_t rfl) (fel_cons fe_c fel_nil))) (fun w' hS => lift1 (p := fun n_ => n_.is ((mix1 row id) / 536870912)) 0 0 hS rfl rfl (fun T l' hm hS => rsh29 hS (hm _ (pget_mem 3 rfl)) hr8 (Nat.le_trans (nm_sm hr8 (sm_of (by omega) (by omega))) (by decide)) (by omega))) (fun r9 hr9 => ?_))
  refine tl_step rfl (oj_call2 Try.call136 fe_f (fel_cons (fe_t rfl) (fel_cons (fe_t rfl) (fel_cons (fe_t rfl) fel_nil))) (fun w' hS => lift1 (p := fun n_ => n_.is (xr (mix1 row id) ((mix1 row id) / 536870912))) 0 3 hS rfl rfl (fun T l' hm hS => xorB hS (hm _ (pget_mem 3 rfl)) (hm _ (pget_mem 0 rfl)) hr8 hr9 (Nat.le_trans (nm_sm hr8 (sm_of (by omega) (by omega))) (by decide)) (Nat.le_trans (nm_sm hr9 (sm_of (by omega) (by omega))) (by decide)) (by omega) (by omega))) (fun r10 hr10 => ?_))
  refine tl_nil ?_
  refine tx_then ?_
  refine tr_seq ?_
  rw [show (xr (mix1 row id) ((mix1 row id) / 536870912) : Int) = mix2 row id from rfl] at hr10
  refine tr_region ?_
  refine tl_step rfl (oj_val (y_move (fe_t rfl)) ?_)
  refine tl_step rfl (oj_val (y_move (fe_t rfl)) ?_)
  refine tl_step rfl (oj_call2 Try.call30 fe_f (fel_cons fe_c fel_nil) (fun w' hS => lift 0 hS rfl (fun T hS => aofW hS 13787848793156543929 (by omega) (by omega))) (fun r11 hr11 => ?_))
  refine tl_step rfl (oj_call2 Try.call46 fe_f (fel_cons (fe_t rfl) (fel_cons (fe_t rfl) (fel_cons (fe_t rfl) fel_nil))) (fun w' hS => lift1 (p := fun n_ => n_.is ((mix2 row id) * 13787848793156543929)) 0 4 hS rfl rfl (fun T l' hm hS => mulB hS (hm _ (pget_mem 4 rfl)) (hm _ (pget_mem 0 rfl)) hr10 hr11 (Nat.le_trans (nm_sm hr10 (sm_of (by omega) (by omega))) (by decide)) (Nat.le_trans (nm_sm hr11 (sm_of (by omega) (by omega))) (by decide)))) (fun r12 hr12 => ?_))
  refine tl_nil ?_
  refine tx_then ?_
  refine tr_seq ?_
  have hp2 := wprod (a := mix2 row id) (b := 13787848793156543929) (by omega) (by omega)
  refine tr_region ?_
  refine tl_step rfl (oj_val (y_move (fe_t rfl)) ?_)
  refine tl_step rfl (oj_val (y_move (fe_t rfl)) ?_)
  refine tl_step rfl (oj_val (y_move (fe_t rfl)) ?_)
  refine tl_step rfl (oj_call2 Try.call121 fe_f (fel_cons (fe_t rfl) (fel_cons (fe_t rfl) (fel_cons (fe_t rfl) fel_nil))) (fun w' hS => lift1 (p := fun n_ => n_.is (((mix2 row id) * 13787848793156543929) % ((1) * 18446744073709551616))) 0 4 hS rfl rfl (fun T l' hm hS => modB hS (hm _ (pget_mem 4 rfl)) (hm _ (pget_mem 6 rfl)) hr12 hr2 (by omega) (sm_of (by omega) (by omega)) sM)) (fun r13 hr13 => ?_))
  refine tl_nil ?_
  refine tx_then ?_
  refine tr_seq ?_
  rw [show (((mix2 row id) * 13787848793156543929) % ((1) * 18446744073709551616) : Int) = mix3 row id from by unfold mix3; rw [Int.one_mul]] at hr13
  refine tr_region ?_
  refine tl_step rfl (oj_val (y_move (fe_t rfl)) ?_)
  refine tl_step rfl (oj_val (y_move (fe_t rfl)) ?_)
  refine tl_step rfl (oj_call2 Try.call123 fe_f (fel_cons (fe_t rfl) (fel_cons (fe_t rfl) (fel_cons fe_c fel_nil))) (fun w' hS => lift1 (p := fun n_ => n_.is ((mix3 row id) / 8589934592)) 0 4 hS rfl rfl (fun T l' hm hS => rsh33 hS (hm _ (pget_mem 4 rfl)) hr13 (Nat.le_trans (nm_sm hr13 (sm_of (by omega) (by omega))) (by decide)) (by omega))) (fun r14 hr14 => ?_))
  refine tl_nil ?_
  refine tx_then ?_
  refine tr_seq ?_
  refine tr_region ?_
  refine tl_step rfl (oj_val (y_move (fe_t rfl)) ?_)
  refine tl_step rfl (oj_val (y_move (fe_t rfl)) ?_)
  refine tl_step rfl (oj_val (y_move (fe_t rfl)) ?_)
  refine tl_step rfl (oj_call2 Try.call111 fe_f (fel_cons (fe_t rfl) fel_nil) (fun w' hS => lift 0 hS rfl (fun T hS => newB hS width (by omega) (by omega))) (fun r15 hr15 => ?_))
  refine tl_step rfl (oj_call2 Try.call121 fe_f (fel_cons (fe_t rfl) (fel_cons (fe_t rfl) (fel_cons (fe_t rfl) fel_nil))) (fun w' hS => lift1 (p := fun n_ => n_.is (((mix3 row id) / 8589934592) % width)) 0 5 hS rfl rfl (fun T l' hm hS => modB hS (hm _ (pget_mem 5 rfl)) (hm _ (pget_mem 0 rfl)) hr14 hr15 (by omega) (sm_of (by omega) (by omega)) (sm_of (by omega) (by omega)))) (fun r16 hr16 => ?_))
  refine tl_step rfl (oj_callv Try.call36 fe_f (fel_cons (fe_t rfl) fel_nil) (fun w' hS => of_eq (int64_any _ _ _ _ (bag_int hS 0 rfl (pget_mem 5 rfl) hr16) (by omega) (by omega))) ?_)
  refine tl_step rfl (oj_val (y_assign (fe_t rfl)) ?_)
  refine tl_nil ?_
  refine tx_then ?_
  refine tr_ret ?_
  refine tx_ret (res1 Try.results62 (rok_t rfl)) (fun w' hS => ?_)
  exact ⟨rfl, hS.pick [] _ rfl (by decide)⟩

end Go.Proofs.Ytcpdelkamckmfaa.Frac
