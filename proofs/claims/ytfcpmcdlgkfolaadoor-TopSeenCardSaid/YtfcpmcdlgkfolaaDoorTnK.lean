/- Walks: the sketch; a window, and the greatest. -/
import Derived.Test.YtfcpmcdlgkfolaaDoorTnM
import Derived.Test.YtfcpmcdlgkfolaaDoorIntFn
import Derived.Test.YtfcpmcdlgkfolaaDoorEJ
import Derived.Test.YtfcpmcdlgkfolaaDoorPaG
import Derived.Test.YtfcpmcdlgkfolaaDoorSlideS
import Derived.Laws.BitsAllLaws
namespace Go.Proofs.YtfcpmcdlgkfolaaDoor.Sketch
open Go.RowKit Go.Proofs.YtfcpmcdlgkfolaaDoor.E
set_option maxHeartbeats 1000000 in
theorem badcell_any (n : Int) (w : World) : Calls Tryd.prog 79 #[(.int .i64 n)] w fun e w' => e = .returned (.bool (badCell n)) ∧ Below w.heap.size w w' := by
  go_enter Tryd.func79, Tryd.ntmps79
  go_wp2_with fail
  all_goals go_ret
  all_goals exact ⟨ret_bool (by rw [Bool.eq_iff_iff]; simp [badCell, *] <;> omega), (by repeat (first | (with_reducible exact Below.refl _ _) | (with_reducible assumption) | (with_reducible refine Below.drew ?_) | (with_reducible refine below_drewN ?_ _) | ((with_reducible refine Below.setCell ?_ ?_ _); rotate_left; (next => first | omega | exact Nat.le_refl _ | (refine Below.size (B := ?_) ?_; rotate_left; assumption) | (simp; done) | (simp; omega))) | ((with_reducible refine Below.alloc ?_ ?_ _); rotate_left; (next => first | omega | exact Nat.le_refl _ | (refine Below.size (B := ?_) ?_; rotate_left; assumption) | (simp; done) | (simp; omega))) | ((with_reducible refine Below.trans (b := ?_) ?_ (Below.mono (B := ?_) ?_ ?_)); rotate_left 3; (next => (with_reducible assumption)); (next => first | omega | exact Nat.le_refl _ | (refine Below.size (B := ?_) ?_; rotate_left; assumption) | (simp; done) | (simp; omega))) | exact Below.refl _ _ | assumption | refine Below.drew ?_ | refine below_drewN ?_ _ | refine Below.alloc ?_ (by first | omega | exact Below.size (by assumption) | (simp; done) | (simp; omega)) _ | refine Below.setCell ?_ (by first | omega | exact Below.size (by assumption) | (simp; done) | (simp; omega)) _ | refine Below.trans ?_ (Below.mono (by assumption) (by first | omega | exact Below.size (by assumption) | (simp; done) | (simp; omega)))))⟩
theorem enter_cell : ∀ args W, (callFunc 79 args).run Tryd.prog W = .ok (.enter 79 args) W := fun _ _ => by kernel_rfl
set_option maxRecDepth 100000 in
set_option maxHeartbeats 4000000 in
theorem right_any (rows width : Int) (A : Option Addr) (n c : Nat) (zs : List Int) (w : World) (hr : RdI .i64 w A zs) (hn : zs.length = n) (hm : n ≤ 140737488355328) :
    Calls Tryd.prog 51 #[.agg #[(.int .i64 rows), (.int .i64 width), .slice A n c]] w fun e w' => e = .returned (.bool (vright rows width zs)) ∧ Below w.heap.size w w' := by
  have HC : Hid (∀ W, Below w.heap.size w W → Calls Tryd.prog 78 #[.slice A n c, .func (.func 79) #[] #[]] W fun e w' => e = .returned (.bool (zs.any badCell)) ∧ Below W.heap.size W w') :=
    Lib.hid fun W hW => containsI_any A n c zs 79 #[] badCell W (hr.below hW) hn hm enter_cell (Lib.hid fun W' _ r _ => badcell_any r W')
  cases hd : dims rows width
  · have hn' := dims_not hd
    have HV : Hid (vright rows width zs = false) := Lib.hid (by simp [vright, hd])
    clear hr hn hm HC hd
    go_enter Tryd.func51, Tryd.ntmps51
    go_wp2_with fail
    all_goals go_ret
    all_goals exact ⟨ret_bool (by rw [HV.out] <;> simp <;> omega), (by repeat (first | (with_reducible exact Below.refl _ _) | (with_reducible assumption) | (with_reducible refine Below.drew ?_) | (with_reducible refine below_drewN ?_ _) | ((with_reducible refine Below.setCell ?_ ?_ _); rotate_left; (next => first | omega | exact Nat.le_refl _ | (refine Below.size (B := ?_) ?_; rotate_left; assumption) | (simp; done) | (simp; omega))) | ((with_reducible refine Below.alloc ?_ ?_ _); rotate_left; (next => first | omega | exact Nat.le_refl _ | (refine Below.size (B := ?_) ?_; rotate_left; assumption) | (simp; done) | (simp; omega))) | ((with_reducible refine Below.trans (b := ?_) ?_ (Below.mono (B := ?_) ?_ ?_)); rotate_left 3; (next => (with_reducible assumption)); (next => first | omega | exact Nat.le_refl _ | (refine Below.size (B := ?_) ?_; rotate_left; assumption) | (simp; done) | (simp; omega))) | exact Below.refl _ _ | assumption | refine Below.drew ?_ | refine below_drewN ?_ _ | refine Below.alloc ?_ (by first | omega | exact Below.size (by assumption) | (simp; done) | (simp; omega)) _ | refine Below.setCell ?_ (by first | omega | exact Below.size (by assumption) | (simp; done) | (simp; omega)) _ | refine Below.trans ?_ (Below.mono (by assumption) (by first | omega | exact Below.size (by assumption) | (simp; done) | (simp; omega)))))⟩
  · obtain ⟨⟨a0, a1⟩, b0, b1⟩ := dims_iff.1 hd
    obtain ⟨p0, p1⟩ := dims_prod hd
    by_cases hl : (n : Int) = rows * width
    · have HV : Hid (vright rows width zs = !zs.any badCell) := Lib.hid (by simp [vright, hd, hn, hl])
      have hl' : ((n : Int) == rows * width) = true := by simpa using hl
      generalize zs.any badCell = ab at HC HV
      clear hr hn hd hl
      go_enter Tryd.func51, Tryd.ntmps51
      go_wp2_with fail
      refine (HC.out _ (by repeat (first | (with_reducible exact Below.refl _ _) | (with_reducible assumption) | (with_reducible refine Below.drew ?_) | (with_reducible refine below_drewN ?_ _) | ((with_reducible refine Below.setCell ?_ ?_ _); rotate_left; (next => first | omega | exact Nat.le_refl _ | (refine Below.size (B := ?_) ?_; rotate_left; assumption) | (simp; done) | (simp; omega))) | ((with_reducible refine Below.alloc ?_ ?_ _); rotate_left; (next => first | omega | exact Nat.le_refl _ | (refine Below.size (B := ?_) ?_; rotate_left; assumption) | (simp; done) | (simp; omega))) | ((with_reducible refine Below.trans (b := ?_) ?_ (Below.mono (B := ?_) ?_ ?_)); rotate_left 3; (next => (with_reducible assumption)); (next => first | omega | exact Nat.le_refl _ | (refine Below.size (B := ?_) ?_; rotate_left; assumption) | (simp; done) | (simp; omega))) | exact Below.refl _ _ | assumption | refine Below.drew ?_ | refine below_drewN ?_ _ | refine Below.alloc ?_ (by first | omega | exact Below.size (by assumption) | (simp; done) | (simp; omega)) _ | refine Below.setCell ?_ (by first | omega | exact Below.size (by assumption) | (simp; done) | (simp; omega)) _ | refine Below.trans ?_ (Below.mono (by assumption) (by first | omega | exact Below.size (by assumption) | (simp; done) | (simp; omega)))))).mono ?_
      rintro e w1 ⟨rfl, hb1⟩
      go_wp2_with fail
      go_ret
      exact ⟨ret_bool HV.out.symm, (by repeat (first | (with_reducible exact Below.refl _ _) | (with_reducible assumption) | (with_reducible refine Below.drew ?_) | (with_reducible refine below_drewN ?_ _) | ((with_reducible refine Below.setCell ?_ ?_ _); rotate_left; (next => first | omega | exact Nat.le_refl _ | (refine Below.size (B := ?_) ?_; rotate_left; assumption) | (simp; done) | (simp; omega))) | ((with_reducible refine Below.alloc ?_ ?_ _); rotate_left; (next => first | omega | exact Nat.le_refl _ | (refine Below.size (B := ?_) ?_; rotate_left; assumption) | (simp; done) | (simp; omega))) | ((with_reducible refine Below.trans (b := ?_) ?_ (Below.mono (B := ?_) ?_ ?_)); rotate_left 3; (next => (with_reducible assumption)); (next => first | omega | exact Nat.le_refl _ | (refine Below.size (B := ?_) ?_; rotate_left; assumption) | (simp; done) | (simp; omega))) | exact Below.refl _ _ | assumption | refine Below.drew ?_ | refine below_drewN ?_ _ | refine Below.alloc ?_ (by first | omega | exact Below.size (by assumption) | (simp; done) | (simp; omega)) _ | refine Below.setCell ?_ (by first | omega | exact Below.size (by assumption) | (simp; done) | (simp; omega)) _ | refine Below.trans ?_ (Below.mono (by assumption) (by first | omega | exact Below.size (by assumption) | (simp; done) | (simp; omega)))))⟩
    · have HV : Hid (vright rows width zs = false) := Lib.hid (by simp [vright, hd, hn, hl])
      have hl' : ((n : Int) == rows * width) = false := by simpa using hl
      clear hr hn hd hl HC
      go_enter Tryd.func51, Tryd.ntmps51
      go_wp2_with fail
      go_ret
      exact ⟨ret_bool HV.out.symm, (by repeat (first | (with_reducible exact Below.refl _ _) | (with_reducible assumption) | (with_reducible refine Below.drew ?_) | (with_reducible refine below_drewN ?_ _) | ((with_reducible refine Below.setCell ?_ ?_ _); rotate_left; (next => first | omega | exact Nat.le_refl _ | (refine Below.size (B := ?_) ?_; rotate_left; assumption) | (simp; done) | (simp; omega))) | ((with_reducible refine Below.alloc ?_ ?_ _); rotate_left; (next => first | omega | exact Nat.le_refl _ | (refine Below.size (B := ?_) ?_; rotate_left; assumption) | (simp; done) | (simp; omega))) | ((with_reducible refine Below.trans (b := ?_) ?_ (Below.mono (B := ?_) ?_ ?_)); rotate_left 3; (next => (with_reducible assumption)); (next => first | omega | exact Nat.le_refl _ | (refine Below.size (B := ?_) ?_; rotate_left; assumption) | (simp; done) | (simp; omega))) | exact Below.refl _ _ | assumption | refine Below.drew ?_ | refine below_drewN ?_ _ | refine Below.alloc ?_ (by first | omega | exact Below.size (by assumption) | (simp; done) | (simp; omega)) _ | refine Below.setCell ?_ (by first | omega | exact Below.size (by assumption) | (simp; done) | (simp; omega)) _ | refine Below.trans ?_ (Below.mono (by assumption) (by first | omega | exact Below.size (by assumption) | (simp; done) | (simp; omega)))))⟩
theorem right_yes {rows width : Int} (A : Option Addr) (n c : Nat) {zs : List Int} (w : World) (hr : Rd w A (zs.map (.int .i64))) (hn : zs.length = n) (hm : n ≤ 140737488355328) (v : vright rows width zs = true) :
    Calls Tryd.prog 51 #[.agg #[(.int .i64 rows), (.int .i64 width), .slice A n c]] w fun e w' => e = .returned (.bool true) ∧ Below w.heap.size w w' := v ▸ right_any rows width A n c zs w hr hn hm
set_option maxRecDepth 100000 in
theorem snew_ok (rows width : Int) (n : Nat) (w : World) (h : dims rows width = true) (hn : rows * width = n) :
    Calls Tryd.prog 21 #[(.int .i64 rows), (.int .i64 width)] w fun e w' => ∃ g : Nat, True ∧ e = .returned (.tuple #[.agg #[(.int .i64 rows), (.int .i64 width), .slice (some ⟨g, 0, none⟩) n n], (.int .i64 0)]) ∧ E.St w w' [vec 3 1 (.slice (some ⟨g, 0, none⟩) n n) n (List.replicate n (.int .i64 0))] := by
  obtain ⟨⟨d0, d1⟩, d2, d3⟩ := dims_iff.1 h
  have hp := dims_prod h
  refine calls_tr Tryd.func21 Tryd.ntmps21 rfl rfl (St.refl _) ?_
  refine tr_seq ?_
  refine tr_region ?_
  refine tl_step rfl (oj_alloc Tryd.zeroValue56 (fun b1 => ?_))
  refine tl_step rfl (oj_val (y_assign fe_c) ?_)
  refine tl_nil ?_
  refine tx_then ?_
  refine tr_seq ?_
  refine tr_seq ?_
  refine tr_region ?_
  refine tl_step rfl (oj_val (y_move (fe_t rfl)) ?_)
  refine tl_step rfl (oj_val (y_lss (fe_t rfl) fe_c) ?_)
  refine tl_step rfl (oj_val (y_move (fe_t rfl)) ?_)
  refine tl_splitp (d := 8) rfl (fun hq1 => ?_) (fun hq2 => ?_)
  · try (exfalso; omega)
    all_goals
      refine tl_skip rfl rfl rfl rfl ?_
      refine tl_skip rfl rfl rfl rfl ?_
      refine tl_step rfl (oj_val (y_pickt (fe_t rfl) fe_c) ?_)
      refine tl_step rfl (oj_val (y_move (fe_t rfl)) ?_)
      refine tl_skip rfl rfl rfl rfl ?_
      refine tl_skip rfl rfl rfl rfl ?_
      refine tl_step rfl (oj_val (y_pickt (fe_t rfl) fe_c) ?_)
      refine tl_step rfl (oj_val (y_move (fe_t rfl)) ?_)
      refine tl_skip rfl rfl rfl rfl ?_
      refine tl_skip rfl rfl rfl rfl ?_
      refine tl_step rfl (oj_val (y_pickt (fe_t rfl) fe_c) ?_)
      refine tl_nil ?_
      refine tx_then ?_
      exfalso; omega
  · try (exfalso; omega)
    all_goals
      refine tl_want rfl rfl rfl (oj_val (y_move (fe_t rfl)) ?_)
      refine tl_want rfl rfl rfl (oj_val (y_gtr (fe_t rfl) fe_c) ?_)
      refine tl_step rfl (oj_val (y_pickf (fe_t rfl) (fe_t rfl)) ?_)
      refine tl_step rfl (oj_val (y_move (fe_t rfl)) ?_)
      refine tl_splitp (d := 12) rfl (fun hq3 => ?_) (fun hq4 => ?_)
      · try (exfalso; omega)
        all_goals
          refine tl_skip rfl rfl rfl rfl ?_
          refine tl_skip rfl rfl rfl rfl ?_
          refine tl_step rfl (oj_val (y_pickt (fe_t rfl) fe_c) ?_)
          refine tl_step rfl (oj_val (y_move (fe_t rfl)) ?_)
          refine tl_skip rfl rfl rfl rfl ?_
          refine tl_skip rfl rfl rfl rfl ?_
          refine tl_step rfl (oj_val (y_pickt (fe_t rfl) fe_c) ?_)
          refine tl_nil ?_
          refine tx_then ?_
          exfalso; omega
      · try (exfalso; omega)
        all_goals
          refine tl_want rfl rfl rfl (oj_val (y_move (fe_t rfl)) ?_)
          refine tl_want rfl rfl rfl (oj_val (y_lss (fe_t rfl) fe_c) ?_)
          refine tl_step rfl (oj_val (y_pickf (fe_t rfl) (fe_t rfl)) ?_)
          refine tl_step rfl (oj_val (y_move (fe_t rfl)) ?_)
          refine tl_splitp (d := 16) rfl (fun hq5 => ?_) (fun hq6 => ?_)
          · try (exfalso; omega)
            all_goals
              refine tl_skip rfl rfl rfl rfl ?_
              refine tl_skip rfl rfl rfl rfl ?_
              refine tl_step rfl (oj_val (y_pickt (fe_t rfl) fe_c) ?_)
              refine tl_nil ?_
              refine tx_then ?_
              exfalso; omega
          · try (exfalso; omega)
            all_goals
              refine tl_want rfl rfl rfl (oj_val (y_move (fe_t rfl)) ?_)
              refine tl_want rfl rfl rfl (oj_val (y_gtr (fe_t rfl) fe_c) ?_)
              refine tl_step rfl (oj_val (y_pickf (fe_t rfl) (fe_t rfl)) ?_)
              refine tl_nil ?_
              refine tx_then ?_
              refine tr_condp (fe_t rfl) (fun hq7 => ?_) (fun hq8 => ?_)
              · exfalso; omega
              · try (exfalso; omega)
                all_goals
                  refine tr_skip ?_
                  refine tx_then ?_
                  refine tr_seq ?_
                  refine tr_region ?_
                  refine tl_step rfl (oj_val (y_move (fe_t rfl)) ?_)
                  refine tl_step rfl (oj_val (y_move (fe_t rfl)) ?_)
                  refine tl_step rfl (oj_val (y_move (fe_t rfl)) ?_)
                  refine tl_step rfl (oj_val (y_move (fe_t rfl)) ?_)
                  refine tl_step rfl (oj_val (y_mul (fe_t rfl) (fe_t rfl) (by omega)) ?_)
                  refine tl_step rfl (oj_make (n := n) (z := (.int .i64 0)) (bytes := 8) Tryd.underlying39 (by kernel_rfl) (fe_i hn rfl) (fe_i hn rfl) rfl ⟨by omega, by decide⟩ (fun g => ?_))
                  refine tl_step rfl (oj_val ((fun {u0 u1 u2} hx hb => y_build (is := [0, 1, 2]) (vs := [u0, u1, u2]) (cs := [u0, u1, u2]) rfl hx hb) (fel_cons (fe_t rfl) (fel_cons (fe_t rfl) (fel_cons (fe_t rfl) fel_nil))) (by kernel_rfl)) ?_)
                  refine tl_step rfl (oj_storeW 1 Tryd.sizeOf56 (fe_t rfl) (fe_t rfl) rfl rfl rfl rfl rfl (?_))
                  refine tl_step rfl (oj_val (y_assign fe_c) ?_)
                  refine tl_nil ?_
                  refine tx_then ?_
                  refine tr_ret ?_
                  refine tx_ret (res2 Tryd.results21 (rok_b 1 Tryd.isAgg56 Tryd.sizeOf56 rfl rfl rfl) (rok_t rfl)) (fun w' hS => ?_)
                  exact ⟨g, trivial, rfl, hS.pick [0] _ rfl (by decide)⟩
end Go.Proofs.YtfcpmcdlgkfolaaDoor.Sketch
namespace Go.Proofs.YtfcpmcdlgkfolaaDoor.Frac
open Go.RowKit Go.Proofs.YtfcpmcdlgkfolaaDoor.E Go.Proofs.YtfcpmcdlgkfolaaDoor.Big
theorem u64_wrap (v : Int) : IntKind.u64.wrap v = v % 18446744073709551616 := by simp [IntKind.wrap, IntKind.signed, IntKind.bits]
theorem u64_xr (a b : Int) (ha : 0 ≤ a ∧ a < 18446744073709551616) (hb : 0 ≤ b ∧ b < 18446744073709551616) {P : Program} (w : World) : (Op.intBits .xor .u64 a b).run P w = .ok (.int .u64 (xr a b)) w := by
  have e : bits .xor .u64 a b = xr a b := by rw [u64_xor a b (by omega) (by omega) (by omega) (by omega)]; rfl
  simp only [Op.intBits]
  first | (rw [e]; rfl) | (simp [bits] at e ⊢; exact e)
theorem shr29 {a : Int} (h : 0 ≤ a) : a.fdiv (2 ^ (min (29 : Int).toNat IntKind.u64.bits)) = a / 536870912 := by
  rw [show (2 : Int) ^ (min (29 : Int).toNat IntKind.u64.bits) = 536870912 from by decide]
  exact Int.fdiv_eq_ediv_of_nonneg _ (by decide)
theorem shr33 {a : Int} (h : 0 ≤ a) : a.fdiv (2 ^ (min (33 : Int).toNat IntKind.u64.bits)) = a / 8589934592 := by
  rw [show (2 : Int) ^ (min (33 : Int).toNat IntKind.u64.bits) = 8589934592 from by decide]
  exact Int.fdiv_eq_ediv_of_nonneg _ (by decide)
theorem getDI {zs : List Int} {j : Nat} (h : j < zs.length) : (zs.map (Value.int .i64))[j]? = some (.int .i64 (zs.getD j 0)) := by
  simp [h]
theorem getD_at {zs : List Int} {j : Nat} (h : j < zs.length) : zs.getD j 0 = zs[j] := by simp [List.getD_eq_getElem?_getD, h]
theorem good_getD {r x : Int} {zs : List Int} (h : Sketch.vright r x zs = true) (j : Nat) (hj : j < zs.length) : 0 ≤ zs.getD j 0 ∧ zs.getD j 0 ≤ 1099511627776 := by
  rw [getD_at hj]
  exact Sketch.good_cells h j hj
theorem cI_spots {width id : Int} {r k : Nat} (h : k < r) : (cI (spots width id r))[k]? = some (.int .i64 ((k : Int) * width + spot k width id)) := by
  rw [cI, List.getElem?_map, List.getElem?_eq_getElem (by rw [spots_len]; exact h), spots_get]
  rfl
theorem cI_upd {zs : List Int} {f : Int → Int} {width id : Int} (hw : 1 ≤ width) {k : Nat} (hk : ((k : Int) * width + spot k width id).toNat < zs.length) : (cI (upd zs f width id k))[((k : Int) * width + spot k width id).toNat]? = some (.int .i64 (zs.getD ((k : Int) * width + spot k width id).toNat 0)) := by
  rw [cI, List.getElem?_map, List.getElem?_eq_getElem (by rw [upd_len]; exact hk), upd_own zs f hw k hk, getD_at hk]
  rfl
theorem vright_facts {r x : Int} {zs : List Int} (h : Sketch.vright r x zs = true) : (1 ≤ r ∧ r ≤ 8) ∧ (1 ≤ x ∧ x ≤ 64) ∧ (zs.length : Int) = r * x := by
  simp only [Sketch.vright, Bool.and_eq_true, beq_iff_eq] at h
  have := Sketch.dims_iff.1 h.1.1
  exact ⟨this.1, this.2, h.1.2⟩
theorem least_bd {r x id : Int} {zs : List Int} (h : Sketch.vright r x zs = true) : ∀ k : Nat, (k : Int) ≤ r → 0 ≤ least zs x id k ∧ (0 < k → least zs x id k ≤ 1099511627776)
  | 0, _ => ⟨by rw [show least zs x id 0 = 2199023255552 from rfl]; decide, fun h => by omega⟩
  | k + 1, hk => by
    obtain ⟨h1, h2, h3⟩ := vright_facts h
    have h4 := (least_bd (id := id) h k (by omega)).1
    obtain ⟨R, rfl⟩ := Int.eq_ofNat_of_zero_le (show 0 ≤ r by omega)
    have h5 := spots_bd (width := x) (id := id) (r := R) (k := k) (by omega) (by omega)
    have h6 := good_getD h ((k : Int) * x + spot k x id).toNat (by omega)
    rw [least_succ]
    omega
set_option maxRecDepth 100000 in
theorem place_ok {row width id : Int} (w : World) (r0 : 0 ≤ row) (r1 : row ≤ 7) (w0 : 1 ≤ width) (w1 : width ≤ 64) (i0 : 0 ≤ id) (i1 : id < 18446744073709551616) :
    Calls Tryd.prog 80 #[(.int .i64 row), (.int .i64 width), .int .u64 id] w fun e w' => e = .returned (.tuple #[(.int .i64 (spot row width id)), (.int .i64 0)]) ∧ St w w' [] := by
  have hm1 := mix1_bd row id
  have hm2 := mix2_bd row id
  have hm3 := mix3_bd row id
  refine calls_tr Tryd.func80 Tryd.ntmps80 rfl rfl (St.refl _) ?_
  refine tr_seq ?_
  refine tr_region ?_
  refine tl_step rfl (oj_val (y_assign fe_c) ?_)
  refine tl_step rfl (oj_val (y_assign fe_c) ?_)
  refine tl_nil ?_
  refine tx_then ?_
  refine tr_seq ?_
  refine tr_seq ?_
  refine tr_region ?_
  refine tl_step rfl (oj_val (y_move (fe_t rfl)) ?_)
  refine tl_step rfl (oj_val (y_lss (fe_t rfl) fe_c) ?_)
  refine tl_step rfl (oj_val (y_move (fe_t rfl)) ?_)
  refine tl_splitp (d := 11) rfl (fun hq1 => ?_) (fun hq2 => ?_)
  · try (exfalso; omega)
    all_goals
      refine tl_skip rfl rfl rfl rfl ?_
      refine tl_skip rfl rfl rfl rfl ?_
      refine tl_step rfl (oj_val (y_pickt (fe_t rfl) fe_c) ?_)
      refine tl_step rfl (oj_val (y_move (fe_t rfl)) ?_)
      refine tl_skip rfl rfl rfl rfl ?_
      refine tl_skip rfl rfl rfl rfl ?_
      refine tl_step rfl (oj_val (y_pickt (fe_t rfl) fe_c) ?_)
      refine tl_step rfl (oj_val (y_move (fe_t rfl)) ?_)
      refine tl_skip rfl rfl rfl rfl ?_
      refine tl_skip rfl rfl rfl rfl ?_
      refine tl_step rfl (oj_val (y_pickt (fe_t rfl) fe_c) ?_)
      refine tl_nil ?_
      refine tx_then ?_
      exfalso; omega
  · try (exfalso; omega)
    all_goals
      refine tl_want rfl rfl rfl (oj_val (y_move (fe_t rfl)) ?_)
      refine tl_want rfl rfl rfl (oj_val (y_gtr (fe_t rfl) fe_c) ?_)
      refine tl_step rfl (oj_val (y_pickf (fe_t rfl) (fe_t rfl)) ?_)
      refine tl_step rfl (oj_val (y_move (fe_t rfl)) ?_)
      refine tl_splitp (d := 15) rfl (fun hq3 => ?_) (fun hq4 => ?_)
      · try (exfalso; omega)
        all_goals
          refine tl_skip rfl rfl rfl rfl ?_
          refine tl_skip rfl rfl rfl rfl ?_
          refine tl_step rfl (oj_val (y_pickt (fe_t rfl) fe_c) ?_)
          refine tl_step rfl (oj_val (y_move (fe_t rfl)) ?_)
          refine tl_skip rfl rfl rfl rfl ?_
          refine tl_skip rfl rfl rfl rfl ?_
          refine tl_step rfl (oj_val (y_pickt (fe_t rfl) fe_c) ?_)
          refine tl_nil ?_
          refine tx_then ?_
          exfalso; omega
      · try (exfalso; omega)
        all_goals
          refine tl_want rfl rfl rfl (oj_val (y_move (fe_t rfl)) ?_)
          refine tl_want rfl rfl rfl (oj_val (y_lss (fe_t rfl) fe_c) ?_)
          refine tl_step rfl (oj_val (y_pickf (fe_t rfl) (fe_t rfl)) ?_)
          refine tl_step rfl (oj_val (y_move (fe_t rfl)) ?_)
          refine tl_splitp (d := 19) rfl (fun hq5 => ?_) (fun hq6 => ?_)
          · try (exfalso; omega)
            all_goals
              refine tl_skip rfl rfl rfl rfl ?_
              refine tl_skip rfl rfl rfl rfl ?_
              refine tl_step rfl (oj_val (y_pickt (fe_t rfl) fe_c) ?_)
              refine tl_nil ?_
              refine tx_then ?_
              exfalso; omega
          · try (exfalso; omega)
            all_goals
              refine tl_want rfl rfl rfl (oj_val (y_move (fe_t rfl)) ?_)
              refine tl_want rfl rfl rfl (oj_val (y_gtr (fe_t rfl) fe_c) ?_)
              refine tl_step rfl (oj_val (y_pickf (fe_t rfl) (fe_t rfl)) ?_)
              refine tl_nil ?_
              refine tx_then ?_
              refine tr_condp (fe_t rfl) (fun hq7 => ?_) (fun hq8 => ?_)
              · exfalso; omega
              · try (exfalso; omega)
                all_goals
                  refine tr_skip ?_
                  refine tx_then ?_
                  refine tr_seq ?_
                  refine tr_region ?_
                  refine tl_step rfl (oj_val (y_move (fe_t rfl)) ?_)
                  refine tl_step rfl (oj_val (y_move (fe_t rfl)) ?_)
                  refine tl_step rfl (oj_val (y_convi Tryd.underlying3 Tryd.underlying60 (fe_t rfl) (IntWalk.u64_in _ (by omega))) ?_)
                  refine tl_step rfl (oj_val (y_as (y_mulk fe_c (fe_t rfl)) (IntWalk.u64_in _ (by omega))) ?_)
                  refine tl_step rfl (oj_val (y_as (y_addk (fe_t rfl) fe_c) (IntWalk.u64_in _ (by omega))) ?_)
                  refine tl_step rfl (oj_val (y_as (y_mulk (fe_t rfl) (fe_t rfl)) (show _ = mix1 row id from u64_wrap _)) ?_)
                  refine tl_step rfl (oj_val (y_assign (fe_t rfl)) ?_)
                  refine tl_nil ?_
                  refine tx_then ?_
                  refine tr_seq ?_
                  refine tr_region ?_
                  refine tl_step rfl (oj_val (y_move (fe_t rfl)) ?_)
                  refine tl_step rfl (oj_val (y_move (fe_t rfl)) ?_)
                  refine tl_step rfl (oj_val (y_as (y_shr (fe_t rfl) fe_c (by decide)) (shr29 hm1.1)) ?_)
                  refine tl_step rfl (oj_val (y_bits (.inr (.inr (.inl rfl))) (fe_t rfl) (fe_t rfl) (fun w => u64_xr _ _ hm1 (by omega) w)) ?_)
                  refine tl_step rfl (oj_val (y_assign (fe_t rfl)) ?_)
                  refine tl_nil ?_
                  refine tx_then ?_
                  refine tr_seq ?_
                  refine tr_region ?_
                  refine tl_step rfl (oj_val (y_move (fe_t rfl)) ?_)
                  refine tl_step rfl (oj_val (y_as (y_mulk (fe_t rfl) fe_c) (show _ = mix3 row id from u64_wrap _)) ?_)
                  refine tl_step rfl (oj_val (y_assign (fe_t rfl)) ?_)
                  refine tl_nil ?_
                  refine tx_then ?_
                  refine tr_seq ?_
                  refine tr_region ?_
                  refine tl_step rfl (oj_val (y_move (fe_t rfl)) ?_)
                  refine tl_step rfl (oj_val (y_as (y_shr (fe_t rfl) fe_c (by decide)) (shr33 hm3.1)) ?_)
                  refine tl_step rfl (oj_val (y_convi Tryd.underlying60 Tryd.underlying3 (fe_t rfl) (IntWalk.i64_in _ (by omega))) ?_)
                  refine tl_step rfl (oj_val (y_move (fe_t rfl)) ?_)
                  refine tl_step rfl (oj_val (y_rem (fe_t rfl) (fe_t rfl) (by omega)) ?_)
                  refine tl_step rfl (oj_val (y_assign (fe_t rfl)) ?_)
                  refine tl_step rfl (oj_val (y_assign fe_c) ?_)
                  refine tl_nil ?_
                  refine tx_then ?_
                  refine tr_ret ?_
                  refine tx_ret (res2 Tryd.results80 (rok_t rfl) (rok_t rfl)) (fun w' hS => ?_)
                  exact ⟨rfl, hS.pick [] _ rfl (by decide)⟩
set_option maxRecDepth 100000 in
set_option maxHeartbeats 2000000 in
theorem cells_ok {width id : Int} (R : Nat) (A : Option Addr) (n c : Nat) (w : World) (hR : R ≤ 8) (w0 : 1 ≤ width) (w1 : width ≤ 64) (i0 : 0 ≤ id) (i1 : id < 18446744073709551616) :
    Calls Tryd.prog 52 #[.agg #[(.int .i64 ((R : Int))), (.int .i64 width), .slice A n c], .int .u64 id] w fun e w' => ∃ v : Vs, (v.n = R ∧ v.xs = cI (spots width id R)) ∧ e = .returned (.slice v.A v.n v.c) ∧ St w w' [vec 3 1 (.slice v.A v.n v.c) v.n v.xs] := by
  refine calls_tr Tryd.func52 Tryd.ntmps52 rfl rfl (St.refl _) ?_
  refine tr_seq ?_
  refine tr_region ?_
  refine tl_step rfl (oj_box (fe_t rfl) (fun b1 => ?_))
  refine tl_step rfl (oj_val (y_assign fe_c) ?_)
  refine tl_nil ?_
  refine tx_then ?_
  refine tr_seq ?_
  refine tr_region ?_
  refine tl_step rfl (oj_val (y_assign fe_c) ?_)
  refine tl_nil ?_
  refine tx_then ?_
  refine tr_seq ?_
  refine tr_seq ?_
  refine tr_region ?_
  refine tl_step rfl (oj_val (y_fieldAddr (td := 3) Tryd.underlying56 rfl rfl Tryd.sizeOf3 (o' := 0) rfl (fe_t rfl)) ?_)
  refine tl_step rfl (oj_val (y_ldb 0 Tryd.isAgg3 (fe_t rfl) rfl rfl) ?_)
  refine tl_step rfl (oj_val (y_move fe_c) ?_)
  refine tl_nil ?_
  refine tx_then ?_
  refine tr_block ?_
  refine tr_add (r := vec 3 1 (.slice none 0 0) 0 []) vec_nil rfl ?_
  refine tr_loop2 [5, 6, 7, 8, 11, 12, 13, 14, 15, 16, 17, 18, 19, 20, 21, 22, 23, 24, 25, 26, 27, 28, 29, 30, 31] (fun (k : Nat) (s1 : Vs) => [(11, .int .i64 (k : Int)), (5, .slice s1.A s1.n s1.c)]) 0 (fun (k : Nat) (s1 : Vs) => [(0, vec 3 1 (.slice s1.A s1.n s1.c) s1.n s1.xs)]) (fun (k : Nat) (s1 : Vs) => k ≤ R ∧ s1.n = k ∧ s1.xs = cI (spots width id k)) (fun (k : Nat) (s1 : Vs) => R - k) (0) (⟨none, 0, 0, []⟩ : Vs) (cov_cons (by first | rfl | exact v_int (by omega) | exact v_bool (by simp [*])) (cov_cons (by first | rfl | exact v_int (by omega) | exact v_bool (by simp [*])) (cov_nil))) (fun w h => h) ?_ ?_
  · try dsimp only
    exact ⟨by omega, rfl, rfl⟩
  intro k s1 hp
  obtain ⟨hk, hn1, hx1⟩ := hp
  refine tr_seq ?_
  refine tr_region ?_
  refine tl_step rfl (oj_val (y_lss (fe_t rfl) (fe_t rfl)) ?_)
  refine tl_nil ?_
  refine tx_then ?_
  refine tr_seq ?_
  refine tr_condp (fe_t rfl) (fun hq1 => ?_) (fun hq2 => ?_)
  · refine tr_skip ?_
    refine tx_then ?_
    refine tr_seq ?_
    refine tr_block ?_
    refine tr_seq ?_
    refine tr_region ?_
    refine tl_step rfl (oj_val (y_move (fe_t rfl)) ?_)
    refine tl_step rfl (oj_val (y_assign (fe_t rfl)) ?_)
    refine tl_nil ?_
    refine tx_then ?_
    refine tr_seq ?_
    have hsb := spots_bd (id := id) (r := R) (k := k) w0 (by omega)
    have hsk := spot_bd (row := (k : Int)) (width := width) (id := id) w0
    have hmc := Int.mul_comm width (k : Int)
    have hR8 : (R : Int) * width ≤ 8 * 64 := Int.mul_le_mul (by omega) w1 (by omega) (by omega)
    have hk0 : 0 ≤ (k : Int) * width := Int.mul_nonneg (by omega) (by omega)
    refine tr_region ?_
    refine tl_step rfl (oj_val (y_move (fe_t rfl)) ?_)
    refine tl_step rfl (oj_val (y_fieldAddr (td := 3) Tryd.underlying56 rfl rfl Tryd.sizeOf3 (o' := 1) rfl (fe_t rfl)) ?_)
    refine tl_step rfl (oj_val (y_ldb 1 Tryd.isAgg3 (fe_t rfl) rfl rfl) ?_)
    refine tl_step rfl (oj_val (y_move (fe_t rfl)) ?_)
    refine tl_step rfl (oj_callv Tryd.call80 fe_f (fel_cons (fe_t rfl) (fel_cons (fe_t rfl) (fel_cons (fe_t rfl) fel_nil))) (fun w' hS => place_ok w' (by omega) (by omega) w0 w1 i0 i1) ?_)
    refine tl_step rfl (oj_val (y_move (fe_t rfl)) ?_)
    refine tl_step rfl (oj_val (y_extract (fe_t rfl) rfl) ?_)
    refine tl_step rfl (oj_val (y_extract (fe_t rfl) rfl) ?_)
    refine tl_step rfl (oj_val (y_assign (fe_t rfl)) ?_)
    refine tl_step rfl (oj_val (y_assign (fe_t rfl)) ?_)
    refine tl_nil ?_
    refine tx_then ?_
    refine tr_region ?_
    refine tl_step rfl (oj_val (y_move (fe_t rfl)) ?_)
    refine tl_step rfl (oj_val (y_move (fe_t rfl)) ?_)
    refine tl_step rfl (oj_val (y_fieldAddr (td := 3) Tryd.underlying56 rfl rfl Tryd.sizeOf3 (o' := 1) rfl (fe_t rfl)) ?_)
    refine tl_step rfl (oj_val (y_ldb 1 Tryd.isAgg3 (fe_t rfl) rfl rfl) ?_)
    refine tl_step rfl (oj_val (y_mul (fe_t rfl) (fe_t rfl) (by omega)) ?_)
    refine tl_step rfl (oj_val (y_move (fe_t rfl)) ?_)
    refine tl_step rfl (oj_val (y_add (fe_t rfl) (fe_t rfl) (by omega)) ?_)
    refine tl_step rfl (oj_slice1 Tryd.underlying39 Tryd.sizeOf3 Tryd.zeroValue3 (fe_t rfl) (by decide) rfl (fun b2 => ?_))
    refine tl_step rfl (oj_append (i := 1) (s := 1) (z := (.int .i64 0)) (bytes := 8) Tryd.underlying39 (by kernel_rfl) (fe_t rfl) (fe_t rfl) rfl (rdl_blk 0 rfl) rfl (by decide) (by first | exact oneI | exact oneF (fun _ => rfl) | exact fun u hu => List.all_eq_true.1 (show List.all _ (fun x => x.oneCell') = true from rfl) u hu | (intro u hu; revert u hu; simp [Value.oneCell'])) (by decide) ⟨by omega, by decide⟩ (fun Aa1 ca1 hca1 => ?_))
    refine tl_step rfl (oj_val (y_assign (fe_t rfl)) ?_)
    refine tl_nil ?_
    refine tx_in ?_
    refine tx_then ?_
    refine tr_region ?_
    refine tl_step rfl (oj_val (y_inc (fe_t rfl) fe_c (by omega)) ?_)
    refine tl_step rfl (oj_val (y_move (fe_t rfl)) ?_)
    refine tl_nil ?_
    apply tx_back2 (k + 1) ((⟨_, _, _, _⟩ : Vs))
    · exact (cov_cons (by first | rfl | exact v_int (by omega) | exact v_bool (by simp [*])) (cov_cons (by first | rfl | exact v_int (by omega) | exact v_bool (by simp [*])) (cov_nil)))
    · repeat (first | exact over_nil | refine over_put rfl ?_ | refine over_drop rfl ?_)
    · exact fun w h => h.pick [1, 2] _ rfl (by decide)
    · refine ⟨⟨by omega, by dsimp only; omega, ?_⟩, by omega⟩
      dsimp only
      rw [hx1, spots_succ, cI, cI, List.map_append]
      rfl
  · refine tr_exit ?_
    refine tx_then_exit ?_
    refine tx_then_exit ?_
    refine tx_in_exit ?_
    refine tx_then ?_
    refine tr_seq ?_
    refine tr_region ?_
    refine tl_step rfl (oj_val (y_move (fe_t rfl)) ?_)
    refine tl_step rfl (oj_val (y_assign (fe_t rfl)) ?_)
    refine tl_nil ?_
    refine tx_then ?_
    refine tr_ret ?_
    refine tx_ret (res1 Tryd.results52 (rok_t rfl)) (fun w' hS => ?_)
    obtain rfl : k = R := by omega
    exact ⟨s1, ⟨hn1, hx1⟩, rfl, hS.pick [0] _ rfl (by decide)⟩
set_option maxRecDepth 100000 in
set_option maxHeartbeats 2000000 in
theorem count_ok {width id : Int} (R : Nat) (A : Option Addr) (n c : Nat) (zs : List Int) (w : World) (hr : Rd w A (zs.map (.int .i64))) (hn : zs.length = n) (va : Sketch.vright (R : Int) width zs = true) (i0 : 0 ≤ id) (i1 : id < 18446744073709551616) :
    Calls Tryd.prog 24 #[.agg #[(.int .i64 ((R : Int))), (.int .i64 width), .slice A n c], .int .u64 id] w fun e w' => e = .returned (.tuple #[(.int .i64 (least zs width id R)), (.int .i64 0)]) ∧ St w w' [] := by
  obtain ⟨⟨d0, d1⟩, ⟨w0, w1⟩, hln⟩ := vright_facts va
  have hR8 : (R : Int) * width ≤ 8 * 64 := Int.mul_le_mul (by omega) w1 (by omega) (by omega)
  refine calls_tr Tryd.func24 Tryd.ntmps24 rfl rfl (St.refl _) ?_
  refine tr_seq ?_
  refine tr_region ?_
  refine tl_step rfl (oj_box (fe_t rfl) (fun b1 => ?_))
  refine tl_step rfl (oj_val (y_assign fe_c) ?_)
  refine tl_step rfl (oj_val (y_assign fe_c) ?_)
  refine tl_nil ?_
  refine tx_then ?_
  refine tr_seq ?_
  refine tr_seq ?_
  refine tr_region ?_
  refine tl_step rfl (oj_val (y_ldbA 0 Tryd.isAgg56 Tryd.sizeOf56 (fe_t rfl) rfl rfl rfl) ?_)
  refine tl_step rfl (oj_callv Tryd.call51 fe_f (fel_cons (fe_t rfl) fel_nil) (fun w' hS => of_bel (Sketch.right_yes A n c w' (Rd.below hr hS.below) hn (by omega) va)) ?_)
  refine tl_step rfl (oj_val (y_not (fe_t rfl)) ?_)
  refine tl_nil ?_
  refine tx_then ?_
  refine tr_condf (fe_t rfl) ?_
  refine tr_skip ?_
  refine tx_then ?_
  refine tr_seq ?_
  refine tr_region ?_
  refine tl_step rfl (oj_val (y_assign fe_c) ?_)
  refine tl_nil ?_
  refine tx_then ?_
  refine tr_seq ?_
  refine tr_seq ?_
  refine tr_region ?_
  refine tl_step rfl (oj_val (y_ldbA 0 Tryd.isAgg56 Tryd.sizeOf56 (fe_t rfl) rfl rfl rfl) ?_)
  refine tl_step rfl (oj_val (y_move (fe_t rfl)) ?_)
  refine tl_step rfl (oj_call Tryd.call52 fe_f (fel_cons (fe_t rfl) (fel_cons (fe_t rfl) fel_nil)) (fun w' hS => cells_ok R A n c w' (by omega) w0 w1 i0 i1) (fun v hq => ?_))
  refine tl_step rfl (oj_val (y_len Tryd.underlying39 (fe_t rfl)) ?_)
  refine tl_step rfl (oj_val (y_move fe_c) ?_)
  refine tl_nil ?_
  refine tx_then ?_
  refine tr_block ?_
  refine tr_loop2 [6, 8, 16, 17, 18, 19, 20, 21, 22, 23, 24, 25, 26, 27, 28, 29, 30, 31, 32, 33, 34, 35, 36] (fun (k : Nat) (b : Int) => [(16, .int .i64 (k : Int)), (6, .int .i64 b)]) 0 (fun (k : Nat) (b : Int) => []) (fun (k : Nat) (b : Int) => k ≤ R ∧ ((k = 0 ∧ b = -1) ∨ (0 < k ∧ b = least zs width id k))) (fun (k : Nat) (b : Int) => R - k) (0) (-1) (cov_cons (by first | rfl | exact v_int (by omega) | exact v_bool (by simp [*])) (cov_cons (by first | rfl | exact v_int (by omega) | exact v_bool (by simp [*])) (cov_nil))) (fun w h => h) ?_ ?_
  · try dsimp only
    exact ⟨by omega, .inl ⟨rfl, rfl⟩⟩
  intro k b hp
  obtain ⟨hk, hb⟩ := hp
  have hlb := least_bd (id := id) va k (by omega)
  refine tr_seq ?_
  refine tr_region ?_
  refine tl_step rfl (oj_val (y_lss (fe_t rfl) (fe_t rfl)) ?_)
  refine tl_nil ?_
  refine tx_then ?_
  refine tr_seq ?_
  refine tr_condp (fe_t rfl) (fun hq1 => ?_) (fun hq2 => ?_)
  · refine tr_skip ?_
    refine tx_then ?_
    refine tr_seq ?_
    refine tr_block ?_
    refine tr_seq ?_
    have hsb := spots_bd (id := id) (r := R) (k := k) w0 (by omega)
    have hzb := good_getD va ((k : Int) * width + spot k width id).toNat (by omega)
    refine tr_region ?_
    refine tl_step rfl (oj_val (y_index Tryd.underlying39 Tryd.sizeOf3 (fe_t rfl) (fe_t rfl) (rdl_vec 0 rfl) (by rw [hq.2, cI, List.length_map, spots_len]; omega) (by decide) (by omega) (Nat.mul_one _)) ?_)
    refine tl_step rfl (oj_val (y_ld (v := .int .i64 ((k : Int) * width + spot k width id)) Tryd.isAgg3 (fe_t rfl) (rdl_vec 0 rfl) (by rw [hq.2]; exact cI_spots (by omega))) ?_)
    refine tl_step rfl (oj_val (y_assign (fe_t rfl)) ?_)
    refine tl_nil ?_
    refine tx_then ?_
    refine tr_seq ?_
    refine tr_region ?_
    refine tl_step rfl (oj_val (y_move (fe_t rfl)) ?_)
    refine tl_step rfl (oj_val (y_lss (fe_t rfl) fe_c) ?_)
    refine tl_step rfl (oj_val (y_move (fe_t rfl)) ?_)
    refine tl_splitp (d := 22) rfl (fun hq3 => ?_) (fun hq4 => ?_)
    · refine tl_skip rfl rfl rfl rfl ?_
      refine tl_skip rfl rfl rfl rfl ?_
      refine tl_skip rfl rfl rfl rfl ?_
      refine tl_skip rfl rfl rfl rfl ?_
      refine tl_skip rfl rfl rfl rfl ?_
      refine tl_skip rfl rfl rfl rfl ?_
      refine tl_skip rfl rfl rfl rfl ?_
      refine tl_step rfl (oj_val (y_pickt (fe_t rfl) fe_c) ?_)
      refine tl_nil ?_
      refine tx_then ?_
      refine tr_condt (fe_t rfl) ?_
      refine tr_region ?_
      refine tl_step rfl (oj_val (y_fieldAddr (td := 39) Tryd.underlying56 rfl rfl Tryd.sizeOf39 (o' := 2) rfl (fe_t rfl)) ?_)
      refine tl_step rfl (oj_val (y_ldb 1 Tryd.isAgg39 (fe_t rfl) rfl rfl) ?_)
      refine tl_step rfl (oj_val (y_move (fe_t rfl)) ?_)
      refine tl_step rfl (oj_val (y_indexI Tryd.underlying39 Tryd.sizeOf3 (fe_t rfl) (fe_t rfl) (rdl_out hr) (by simp; omega) (by decide) (by omega) (by omega) (Nat.mul_one _)) ?_)
      refine tl_step rfl (oj_val (y_ld Tryd.isAgg3 (fe_t rfl) (rdl_out hr) (getDI (by omega))) ?_)
      refine tl_step rfl (oj_val (y_assign (fe_t rfl)) ?_)
      refine tl_nil ?_
      refine tx_in ?_
      refine tx_then ?_
      refine tr_region ?_
      refine tl_step rfl (oj_val (y_inc (fe_t rfl) fe_c (by omega)) ?_)
      refine tl_step rfl (oj_val (y_move (fe_t rfl)) ?_)
      refine tl_nil ?_
      apply tx_back2 (k + 1) (zs.getD ((k : Int) * width + spot k width id).toNat 0)
      · exact (cov_cons (by first | rfl | exact v_int (by omega) | exact v_bool (by simp [*])) (cov_cons (by first | rfl | exact v_int (by omega) | exact v_bool (by simp [*])) (cov_nil)))
      · repeat (first | exact over_nil | refine over_put rfl ?_ | refine over_drop rfl ?_)
      · exact fun w h => h.pick [0, 1] _ rfl (by decide)
      · have hls := least_succ zs width id k
        rcases hb with ⟨rfl, rfl⟩ | ⟨h0, rfl⟩
        · have h00 : least zs width id 0 = 2199023255552 := rfl
          first | exact ⟨⟨by omega, .inr ⟨by omega, by omega⟩⟩, by omega⟩ | (exfalso; omega)
        · first | exact ⟨⟨by omega, .inr ⟨by omega, by omega⟩⟩, by omega⟩ | (exfalso; omega)
    · refine tl_want rfl rfl rfl (oj_val (y_fieldAddr (td := 39) Tryd.underlying56 rfl rfl Tryd.sizeOf39 (o' := 2) rfl (fe_t rfl)) ?_)
      refine tl_want rfl rfl rfl (oj_val (y_ldb 1 Tryd.isAgg39 (fe_t rfl) rfl rfl) ?_)
      refine tl_want rfl rfl rfl (oj_val (y_move (fe_t rfl)) ?_)
      refine tl_want rfl rfl rfl (oj_val (y_indexI Tryd.underlying39 Tryd.sizeOf3 (fe_t rfl) (fe_t rfl) (rdl_out hr) (by simp; omega) (by decide) (by omega) (by omega) (Nat.mul_one _)) ?_)
      refine tl_want rfl rfl rfl (oj_val (y_ld Tryd.isAgg3 (fe_t rfl) (rdl_out hr) (getDI (by omega))) ?_)
      refine tl_want rfl rfl rfl (oj_val (y_move (fe_t rfl)) ?_)
      refine tl_want rfl rfl rfl (oj_val (y_lss (fe_t rfl) (fe_t rfl)) ?_)
      refine tl_step rfl (oj_val (y_pickf (fe_t rfl) (fe_t rfl)) ?_)
      refine tl_nil ?_
      refine tx_then ?_
      refine tr_condp (fe_t rfl) (fun hq5 => ?_) (fun hq6 => ?_)
      · refine tr_region ?_
        refine tl_step rfl (oj_val (y_fieldAddr (td := 39) Tryd.underlying56 rfl rfl Tryd.sizeOf39 (o' := 2) rfl (fe_t rfl)) ?_)
        refine tl_step rfl (oj_val (y_ldb 1 Tryd.isAgg39 (fe_t rfl) rfl rfl) ?_)
        refine tl_step rfl (oj_val (y_move (fe_t rfl)) ?_)
        refine tl_step rfl (oj_val (y_indexI Tryd.underlying39 Tryd.sizeOf3 (fe_t rfl) (fe_t rfl) (rdl_out hr) (by simp; omega) (by decide) (by omega) (by omega) (Nat.mul_one _)) ?_)
        refine tl_step rfl (oj_val (y_ld Tryd.isAgg3 (fe_t rfl) (rdl_out hr) (getDI (by omega))) ?_)
        refine tl_step rfl (oj_val (y_assign (fe_t rfl)) ?_)
        refine tl_nil ?_
        refine tx_in ?_
        refine tx_then ?_
        refine tr_region ?_
        refine tl_step rfl (oj_val (y_inc (fe_t rfl) fe_c (by omega)) ?_)
        refine tl_step rfl (oj_val (y_move (fe_t rfl)) ?_)
        refine tl_nil ?_
        apply tx_back2 (k + 1) (zs.getD ((k : Int) * width + spot k width id).toNat 0)
        · exact (cov_cons (by first | rfl | exact v_int (by omega) | exact v_bool (by simp [*])) (cov_cons (by first | rfl | exact v_int (by omega) | exact v_bool (by simp [*])) (cov_nil)))
        · repeat (first | exact over_nil | refine over_put rfl ?_ | refine over_drop rfl ?_)
        · exact fun w h => h.pick [0, 1] _ rfl (by decide)
        · have hls := least_succ zs width id k
          rcases hb with ⟨rfl, rfl⟩ | ⟨h0, rfl⟩
          · have h00 : least zs width id 0 = 2199023255552 := rfl
            first | exact ⟨⟨by omega, .inr ⟨by omega, by omega⟩⟩, by omega⟩ | (exfalso; omega)
          · first | exact ⟨⟨by omega, .inr ⟨by omega, by omega⟩⟩, by omega⟩ | (exfalso; omega)
      · refine tr_skip ?_
        refine tx_in ?_
        refine tx_then ?_
        refine tr_region ?_
        refine tl_step rfl (oj_val (y_inc (fe_t rfl) fe_c (by omega)) ?_)
        refine tl_step rfl (oj_val (y_move (fe_t rfl)) ?_)
        refine tl_nil ?_
        apply tx_back2 (k + 1) (b)
        · exact (cov_cons (by first | rfl | exact v_int (by omega) | exact v_bool (by simp [*])) (cov_cons (by first | rfl | exact v_int (by omega) | exact v_bool (by simp [*])) (cov_nil)))
        · repeat (first | exact over_nil | refine over_put rfl ?_ | refine over_drop rfl ?_)
        · exact fun w h => h.pick [0, 1] _ rfl (by decide)
        · have hls := least_succ zs width id k
          rcases hb with ⟨rfl, rfl⟩ | ⟨h0, rfl⟩
          · have h00 : least zs width id 0 = 2199023255552 := rfl
            first | exact ⟨⟨by omega, .inr ⟨by omega, by omega⟩⟩, by omega⟩ | (exfalso; omega)
          · first | exact ⟨⟨by omega, .inr ⟨by omega, by omega⟩⟩, by omega⟩ | (exfalso; omega)
  · refine tr_exit ?_
    refine tx_then_exit ?_
    refine tx_then_exit ?_
    refine tx_in_exit ?_
    refine tx_then ?_
    refine tr_seq ?_
    refine tr_region ?_
    refine tl_step rfl (oj_val (y_move (fe_t rfl)) ?_)
    refine tl_step rfl (oj_val (y_assign (fe_t rfl)) ?_)
    refine tl_step rfl (oj_val (y_assign fe_c) ?_)
    refine tl_nil ?_
    refine tx_then ?_
    refine tr_ret ?_
    refine tx_ret (res2 Tryd.results24 (rok_t rfl) (rok_t rfl)) (fun w' hS => ?_)
    obtain rfl : k = R := by omega
    obtain rfl : b = least zs width id k := by omega
    exact ⟨rfl, hS.pick [] _ rfl (by decide)⟩
set_option maxRecDepth 100000 in
set_option maxHeartbeats 4000000 in
theorem Aadd_ok {width id nn : Int} {cf : Bool} (R : Nat) (A : Option Addr) (n c : Nat) (zs : List Int) (w : World) (hr : Rd w A (zs.map (.int .i64))) (hn : zs.length = n) (va : Sketch.vright (R : Int) width zs = true) (i0 : 0 ≤ id) (i1 : id < 18446744073709551616) (hn0 : 0 ≤ nn) (hn1 : nn ≤ 1073741824) (hf : bigs zs (nw cf (least zs width id R) nn) width id R = false) :
    Calls Tryd.prog 22 #[.agg #[(.int .i64 ((R : Int))), (.int .i64 width), .slice A n c], .int .u64 id, (.int .i64 nn), .bool cf] w fun e w' => ∃ v : Vs, (v.n = n ∧ v.xs = cI (upd zs (nw cf (least zs width id R) nn) width id R)) ∧ e = .returned (.tuple #[.agg #[(.int .i64 ((R : Int))), (.int .i64 width), .slice v.A v.n v.c], (.int .i64 0)]) ∧ St w w' [vec 3 1 (.slice v.A v.n v.c) v.n v.xs] := by
  obtain ⟨⟨d0, d1⟩, ⟨w0, w1⟩, hln⟩ := vright_facts va
  have hR8 : (R : Int) * width ≤ 8 * 64 := Int.mul_le_mul (by omega) w1 (by omega) (by omega)
  have hlb := least_bd (id := id) va R (by omega)
  have hpos := Sketch.dims_prod (Sketch.dims_iff.2 ⟨⟨d0, d1⟩, w0, w1⟩)
  refine calls_tr Tryd.func22 Tryd.ntmps22 rfl rfl (St.refl _) ?_
  refine tr_seq ?_
  refine tr_region ?_
  refine tl_step rfl (oj_box (fe_t rfl) (fun sb => ?_))
  refine tl_step rfl (oj_alloc Tryd.zeroValue56 (fun rb => ?_))
  refine tl_step rfl (oj_val (y_assign fe_c) ?_)
  refine tl_nil ?_
  refine tx_then ?_
  refine tr_seq ?_
  refine tr_block ?_
  refine tr_seq ?_
  refine tr_region ?_
  refine tl_step rfl (oj_val (y_ldbA 1 Tryd.isAgg56 Tryd.sizeOf56 (fe_t rfl) rfl rfl rfl) ?_)
  refine tl_step rfl (oj_callv Tryd.call51 fe_f (fel_cons (fe_t rfl) fel_nil) (fun w' hS => of_bel (Sketch.right_yes A n c w' (Rd.below hr hS.below) hn (by omega) va)) ?_)
  refine tl_step rfl (oj_val (y_not (fe_t rfl)) ?_)
  refine tl_step rfl (oj_val (y_assign (fe_t rfl)) ?_)
  refine tl_nil ?_
  refine tx_then ?_
  refine tr_condf (fe_t rfl) ?_
  refine tr_seq ?_
  refine tr_region ?_
  refine tl_step rfl (oj_val (y_move (fe_t rfl)) ?_)
  refine tl_step rfl (oj_val (y_lss (fe_t rfl) fe_c) ?_)
  refine tl_step rfl (oj_val (y_move (fe_t rfl)) ?_)
  refine tl_splitp (d := 22) rfl (fun hq1 => ?_) (fun hq2 => ?_)
  · try (exfalso; omega)
    all_goals
      refine tl_skip rfl rfl rfl rfl ?_
      refine tl_skip rfl rfl rfl rfl ?_
      refine tl_step rfl (oj_val (y_pickt (fe_t rfl) fe_c) ?_)
      refine tl_step rfl (oj_val (y_assign (fe_t rfl)) ?_)
      refine tl_nil ?_
      refine tx_then ?_
      exfalso; omega
  · try (exfalso; omega)
    all_goals
      refine tl_want rfl rfl rfl (oj_val (y_move (fe_t rfl)) ?_)
      refine tl_want rfl rfl rfl (oj_val (y_gtr (fe_t rfl) fe_c) ?_)
      refine tl_step rfl (oj_val (y_pickf (fe_t rfl) (fe_t rfl)) ?_)
      refine tl_step rfl (oj_val (y_assign (fe_t rfl)) ?_)
      refine tl_nil ?_
      refine tx_then ?_
      refine tr_condp (fe_t rfl) (fun hq3 => ?_) (fun hq4 => ?_)
      · exfalso; omega
      · try (exfalso; omega)
        all_goals
          refine tr_skip ?_
          refine tx_in ?_
          refine tx_then ?_
          refine tr_seq ?_
          refine tr_region ?_
          refine tl_step rfl (oj_val (y_ldbA 1 Tryd.isAgg56 Tryd.sizeOf56 (fe_t rfl) rfl rfl rfl) ?_)
          refine tl_step rfl (oj_val (y_move (fe_t rfl)) ?_)
          refine tl_step rfl (oj_callv Tryd.call24 fe_f (fel_cons (fe_t rfl) (fel_cons (fe_t rfl) fel_nil)) (fun w' hS => count_ok R A n c zs w' (Rd.below hr hS.below) hn va i0 i1) ?_)
          refine tl_step rfl (oj_val (y_move (fe_t rfl)) ?_)
          refine tl_step rfl (oj_val (y_extract (fe_t rfl) rfl) ?_)
          refine tl_step rfl (oj_val (y_extract (fe_t rfl) rfl) ?_)
          refine tl_step rfl (oj_val (y_assign (fe_t rfl)) ?_)
          refine tl_step rfl (oj_val (y_assign (fe_t rfl)) ?_)
          refine tl_nil ?_
          refine tx_then ?_
          refine tr_seq ?_
          refine tr_region ?_
          refine tl_step rfl (oj_val (y_fieldAddr (td := 39) Tryd.underlying56 rfl rfl Tryd.sizeOf39 (o' := 2) rfl (fe_t rfl)) ?_)
          refine tl_step rfl (oj_val (y_ldb 1 Tryd.isAgg39 (fe_t rfl) rfl rfl) ?_)
          refine tl_step rfl (oj_call Tryd.call48 fe_f (fel_cons (fe_t rfl) fel_nil) (fun w' hS => Pace.clone_any A n c zs w' (Rd.below hr hS.below) hn (by omega)) (fun q hq0 => ?_))
          refine tl_step rfl (oj_val (y_fieldAddr (td := 39) Tryd.underlying56 rfl rfl Tryd.sizeOf39 (o' := 2) rfl (fe_t rfl)) ?_)
          refine tl_step rfl (oj_store1 2 Tryd.sizeOf39 (fe_t rfl) (fe_t rfl) rfl rfl rfl rfl (?_))
          refine tl_nil ?_
          refine tx_then ?_
          refine tr_seq ?_
          refine tr_seq ?_
          refine tr_region ?_
          refine tl_step rfl (oj_val (y_ldbA 2 Tryd.isAgg56 Tryd.sizeOf56 (fe_t rfl) rfl rfl rfl) ?_)
          refine tl_step rfl (oj_val (y_move (fe_t rfl)) ?_)
          refine tl_step rfl (oj_call Tryd.call52 fe_f (fel_cons (fe_t rfl) (fel_cons (fe_t rfl) fel_nil)) (fun w' hS => cells_ok R _ _ _ w' (by omega) w0 w1 i0 i1) (fun v hq => ?_))
          refine tl_step rfl (oj_val (y_len Tryd.underlying39 (fe_t rfl)) ?_)
          refine tl_step rfl (oj_val (y_move fe_c) ?_)
          refine tl_nil ?_
          refine tx_then ?_
          refine tr_block ?_
          refine tr_loop2 [9, 13, 41, 42, 43, 44, 45, 46, 47, 48, 49, 50, 51, 52, 53, 54, 55, 56, 57, 58, 59, 60, 61, 62, 63, 64, 65, 66, 67, 68, 69, 70, 71, 72, 73, 74] (fun (k : Nat) (vx : List Value) => [(41, .int .i64 (k : Int))]) 0 (fun (k : Nat) (vx : List Value) => [(1, vec 3 1 (.slice q.1 zs.length q.2) zs.length vx)]) (fun (k : Nat) (vx : List Value) => k ≤ R ∧ vx = cI (upd zs (nw cf (least zs width id R) nn) width id k) ∧ bigs zs (nw cf (least zs width id R) nn) width id k = false) (fun (k : Nat) (vx : List Value) => R - k) (0) (_) (cov_cons (by first | rfl | exact v_int (by omega) | exact v_bool (by simp [*])) (cov_nil)) (fun w h => h) ?_ ?_
          · try dsimp only
            exact ⟨by omega, rfl, rfl⟩
          intro k vx hp
          obtain ⟨hk, hvx, hbg⟩ := hp
          have hvl : vx.length = n := by rw [hvx, cI, List.length_map, upd_len]; omega
          refine tr_seq ?_
          refine tr_region ?_
          refine tl_step rfl (oj_val (y_lss (fe_t rfl) (fe_t rfl)) ?_)
          refine tl_nil ?_
          refine tx_then ?_
          refine tr_seq ?_
          refine tr_condp (fe_t rfl) (fun hq5 => ?_) (fun hq6 => ?_)
          · try (exfalso; omega)
            all_goals
              refine tr_skip ?_
              refine tx_then ?_
              refine tr_seq ?_
              refine tr_block ?_
              refine tr_seq ?_
              have hsb := spots_bd (id := id) (r := R) (k := k) w0 (by omega)
              have hzb := good_getD va ((k : Int) * width + spot k width id).toNat (by omega)
              refine tr_region ?_
              refine tl_step rfl (oj_val (y_index Tryd.underlying39 Tryd.sizeOf3 (fe_t rfl) (fe_t rfl) (rdl_vec 0 rfl) (by rw [hq.2, cI, List.length_map, spots_len]; omega) (by decide) (by omega) (Nat.mul_one _)) ?_)
              refine tl_step rfl (oj_val (y_ld (v := .int .i64 ((k : Int) * width + spot k width id)) Tryd.isAgg3 (fe_t rfl) (rdl_vec 0 rfl) (by rw [hq.2]; exact cI_spots (by omega))) ?_)
              refine tl_step rfl (oj_val (y_assign (fe_t rfl)) ?_)
              refine tl_nil ?_
              refine tx_then ?_
              refine tr_seq ?_
              refine tr_seq ?_
              refine tr_region ?_
              refine tl_step rfl (oj_val (y_move (fe_t rfl)) ?_)
              refine tl_nil ?_
              refine tx_then ?_
              refine tr_cond (fe_t rfl) (fun hq7 => ?_) (fun hq8 => ?_)
              · try (exfalso; omega)
                all_goals
                  obtain rfl : cf = true := hq7
                  refine tb_draw 13 (sel _ [0, 2, 3]) (fun w h => h.sel _ rfl (by decide)) rfl ?_
                  refine tb_float (i := 0) rfl (by kernel_rfl) rfl (wants_none rfl) (yq_of (y_fieldAddr (td := 39) Tryd.underlying56 rfl rfl Tryd.sizeOf39 (o' := 2) rfl (fe_t rfl))) ?_
                  refine tb_float (i := 1) rfl (by kernel_rfl) rfl (wants_none rfl) (yq_of (y_ldb 2 Tryd.isAgg39 (fe_t rfl) rfl rfl)) ?_
                  refine tb_float (i := 2) rfl (by kernel_rfl) rfl (wants_none rfl) (yq_of (y_move (fe_t rfl))) ?_
                  refine tb_float (i := 3) rfl (by kernel_rfl) rfl (wants_none rfl) (yq_of (y_fieldAddr (td := 39) Tryd.underlying56 rfl rfl Tryd.sizeOf39 (o' := 2) rfl (fe_t rfl))) ?_
                  refine tb_float (i := 4) rfl (by kernel_rfl) rfl (wants_none rfl) (yq_of (y_ldb 2 Tryd.isAgg39 (fe_t rfl) rfl rfl)) ?_
                  refine tb_float (i := 5) rfl (by kernel_rfl) rfl (wants_none rfl) (yq_of (y_move (fe_t rfl))) ?_
                  refine tb_float1 (i := 6) rfl (by kernel_rfl) (by kernel_rfl) rfl (wants_none rfl) (yq_of (y_indexI Tryd.underlying39 Tryd.sizeOf3 (fe_t rfl) (fe_t rfl) (rdl_vec 1 rfl) (by first | omega | (rw [List.length_set]; omega)) (by decide) (by omega) (by omega) (Nat.mul_one _))) ?_
                  refine tb_float1 (i := 7) rfl (by kernel_rfl) (by kernel_rfl) rfl (wants_none rfl) (yq_of (y_ld (v := (.int .i64 (zs.getD ((k : Int) * width + spot k width id).toNat 0))) Tryd.isAgg3 (fe_t rfl) (rdl_vec 1 rfl) (by rw [hvx]; exact cI_upd w0 (by omega)))) ?_
                  refine tb_float (i := 8) rfl (by kernel_rfl) rfl (wants_none rfl) (yq_of (y_move (fe_t rfl))) ?_
                  refine tb_float (i := 9) rfl (by kernel_rfl) rfl (wants_none rfl) (yq_of (y_move (fe_t rfl))) ?_
                  refine tb_float (i := 10) rfl (by kernel_rfl) rfl (wants_none rfl) (yq_of (y_add (fe_t rfl) (fe_t rfl) (by omega))) ?_
                  refine tb_float (i := 11) rfl (by kernel_rfl) rfl (wants_none rfl) (yq_of (y_max (fe_t rfl) (fe_t rfl))) ?_
                  refine tb_float1 (i := 12) rfl (by kernel_rfl) (by kernel_rfl) rfl (wants_none rfl) (yq_of (y_indexI Tryd.underlying39 Tryd.sizeOf3 (fe_t rfl) (fe_t rfl) (rdl_vec 1 rfl) (by first | omega | (rw [List.length_set]; omega)) (by decide) (by omega) (by omega) (Nat.mul_one _))) ?_
                  refine tb_one2 (i := 13) rfl (by kernel_rfl) (by kernel_rfl) (wants_none rfl) (oj_storeE1 (i := 1) Tryd.sizeOf3 (fe_t rfl) (fe_t rfl) rfl rfl rfl (by omega) (⟨fun w h => h.pick [0, 2, 3] _ rfl (by decide), ?_⟩))
                  refine tb_done (by kernel_rfl) ?_
                  refine tx_then ?_
                  refine tr_seq ?_
                  refine tr_region ?_
                  refine tl_step rfl (oj_val (y_fieldAddr (td := 39) Tryd.underlying56 rfl rfl Tryd.sizeOf39 (o' := 2) rfl (fe_t rfl)) ?_)
                  refine tl_step rfl (oj_val (y_ldb 3 Tryd.isAgg39 (fe_t rfl) rfl rfl) ?_)
                  refine tl_step rfl (oj_val (y_move (fe_t rfl)) ?_)
                  refine tl_step rfl (oj_val (y_indexI Tryd.underlying39 Tryd.sizeOf3 (fe_t rfl) (fe_t rfl) (rdl_vec 1 rfl) (by first | omega | (rw [List.length_set]; omega)) (by decide) (by omega) (by omega) (Nat.mul_one _)) ?_)
                  refine tl_step rfl (oj_val (y_ld Tryd.isAgg3 (fe_t rfl) (rdl_vec 1 rfl) (set_get (by omega))) ?_)
                  refine tl_step rfl (oj_val (y_gtr (fe_t rfl) fe_c) ?_)
                  refine tl_nil ?_
                  refine tx_then ?_
                  refine tr_condp (fe_t rfl) (fun hq9 => ?_) (fun hq10 => ?_)
                  · try (exfalso; omega)
                    all_goals
                      refine tr_seq ?_
                      refine tr_region ?_
                      refine tl_step rfl (oj_val (y_build (is := []) (vs := []) (cs := [.int .i64 0, .int .i64 0, .slice none 0 0]) rfl fel_nil (by kernel_rfl)) ?_)
                      refine tl_step rfl (oj_storeW 2 Tryd.sizeOf56 (fe_t rfl) (fe_t rfl) rfl rfl rfl rfl rfl (?_))
                      refine tl_step rfl (oj_val (y_assign fe_c) ?_)
                      refine tl_nil ?_
                      refine tx_then ?_
                      refine tr_ret ?_
                      refine tx_in_ret ?_
                      refine tx_then_ret ?_
                      refine tx_then_ret ?_
                      refine tx_in_ret ?_
                      refine tx_then_ret ?_
                      refine tx_ret (res2 Tryd.results22 (rok_b 2 Tryd.isAgg56 Tryd.sizeOf56 rfl rfl rfl) (rok_t rfl)) (fun w' hS => ?_)
                      have hbt : bigs zs (nw true (least zs width id R) nn) width id (k + 1) = true := by rw [bigs_succ, Bool.or_eq_true, decide_eq_true_eq]; unfold nw; simp only [cond_true, cond_false]; exact .inr (by omega)
                      have hbr := bigs_mono (r := R) (by omega) hbt
                      rw [hf] at hbr
                      cases hbr
                  · try (exfalso; omega)
                    all_goals
                      refine tr_skip ?_
                      refine tx_in ?_
                      refine tx_then ?_
                      refine tr_region ?_
                      refine tl_step rfl (oj_val (y_inc (fe_t rfl) fe_c (by omega)) ?_)
                      refine tl_step rfl (oj_val (y_move (fe_t rfl)) ?_)
                      refine tl_nil ?_
                      apply tx_back2 (k + 1) (_)
                      · exact (cov_cons (by first | rfl | exact v_int (by omega) | exact v_bool (by simp [*])) (cov_nil))
                      · repeat (first | exact over_nil | refine over_put rfl ?_ | refine over_drop rfl ?_)
                      · exact fun w h => h.pick [0, 1, 2, 3] _ rfl (by decide)
                      · refine ⟨⟨by omega, by rw [hvx, upd, cI, cI, List.map_set]; first | rfl | (congr 2; unfold nw; simp only [cond_true, cond_false]; omega), ?_⟩, by omega⟩
                        rw [bigs_succ, hbg, Bool.false_or, decide_eq_false_iff_not]
                        unfold nw
                        simp only [cond_true, cond_false]
                        omega
              · try (exfalso; omega)
                all_goals
                  obtain rfl : cf = false := hq8
                  refine tr_region ?_
                  refine tl_step rfl (oj_val (y_fieldAddr (td := 39) Tryd.underlying56 rfl rfl Tryd.sizeOf39 (o' := 2) rfl (fe_t rfl)) ?_)
                  refine tl_step rfl (oj_val (y_ldb 3 Tryd.isAgg39 (fe_t rfl) rfl rfl) ?_)
                  refine tl_step rfl (oj_val (y_move (fe_t rfl)) ?_)
                  refine tl_step rfl (oj_val (y_indexI Tryd.underlying39 Tryd.sizeOf3 (fe_t rfl) (fe_t rfl) (rdl_vec 1 rfl) (by first | omega | (rw [List.length_set]; omega)) (by decide) (by omega) (by omega) (Nat.mul_one _)) ?_)
                  refine tl_step rfl (oj_val (y_ld (v := (.int .i64 (zs.getD ((k : Int) * width + spot k width id).toNat 0))) Tryd.isAgg3 (fe_t rfl) (rdl_vec 1 rfl) (by rw [hvx]; exact cI_upd w0 (by omega))) ?_)
                  refine tl_step rfl (oj_val (y_move (fe_t rfl)) ?_)
                  refine tl_step rfl (oj_val (y_add (fe_t rfl) (fe_t rfl) (by omega)) ?_)
                  refine tl_step rfl (oj_val (y_indexI Tryd.underlying39 Tryd.sizeOf3 (fe_t rfl) (fe_t rfl) (rdl_vec 1 rfl) (by first | omega | (rw [List.length_set]; omega)) (by decide) (by omega) (by omega) (Nat.mul_one _)) ?_)
                  refine tl_step rfl (oj_storeE1 (i := 1) Tryd.sizeOf3 (fe_t rfl) (fe_t rfl) rfl rfl rfl (by omega) (?_))
                  refine tl_nil ?_
                  refine tx_then ?_
                  refine tr_seq ?_
                  refine tr_region ?_
                  refine tl_step rfl (oj_val (y_fieldAddr (td := 39) Tryd.underlying56 rfl rfl Tryd.sizeOf39 (o' := 2) rfl (fe_t rfl)) ?_)
                  refine tl_step rfl (oj_val (y_ldb 3 Tryd.isAgg39 (fe_t rfl) rfl rfl) ?_)
                  refine tl_step rfl (oj_val (y_move (fe_t rfl)) ?_)
                  refine tl_step rfl (oj_val (y_indexI Tryd.underlying39 Tryd.sizeOf3 (fe_t rfl) (fe_t rfl) (rdl_vec 1 rfl) (by first | omega | (rw [List.length_set]; omega)) (by decide) (by omega) (by omega) (Nat.mul_one _)) ?_)
                  refine tl_step rfl (oj_val (y_ld Tryd.isAgg3 (fe_t rfl) (rdl_vec 1 rfl) (set_get (by omega))) ?_)
                  refine tl_step rfl (oj_val (y_gtr (fe_t rfl) fe_c) ?_)
                  refine tl_nil ?_
                  refine tx_then ?_
                  refine tr_condp (fe_t rfl) (fun hq11 => ?_) (fun hq12 => ?_)
                  · try (exfalso; omega)
                    all_goals
                      refine tr_seq ?_
                      refine tr_region ?_
                      refine tl_step rfl (oj_val (y_build (is := []) (vs := []) (cs := [.int .i64 0, .int .i64 0, .slice none 0 0]) rfl fel_nil (by kernel_rfl)) ?_)
                      refine tl_step rfl (oj_storeW 2 Tryd.sizeOf56 (fe_t rfl) (fe_t rfl) rfl rfl rfl rfl rfl (?_))
                      refine tl_step rfl (oj_val (y_assign fe_c) ?_)
                      refine tl_nil ?_
                      refine tx_then ?_
                      refine tr_ret ?_
                      refine tx_in_ret ?_
                      refine tx_then_ret ?_
                      refine tx_then_ret ?_
                      refine tx_in_ret ?_
                      refine tx_then_ret ?_
                      refine tx_ret (res2 Tryd.results22 (rok_b 2 Tryd.isAgg56 Tryd.sizeOf56 rfl rfl rfl) (rok_t rfl)) (fun w' hS => ?_)
                      have hbt : bigs zs (nw false (least zs width id R) nn) width id (k + 1) = true := by rw [bigs_succ, Bool.or_eq_true, decide_eq_true_eq]; unfold nw; simp only [cond_true, cond_false]; exact .inr (by omega)
                      have hbr := bigs_mono (r := R) (by omega) hbt
                      rw [hf] at hbr
                      cases hbr
                  · try (exfalso; omega)
                    all_goals
                      refine tr_skip ?_
                      refine tx_in ?_
                      refine tx_then ?_
                      refine tr_region ?_
                      refine tl_step rfl (oj_val (y_inc (fe_t rfl) fe_c (by omega)) ?_)
                      refine tl_step rfl (oj_val (y_move (fe_t rfl)) ?_)
                      refine tl_nil ?_
                      apply tx_back2 (k + 1) (_)
                      · exact (cov_cons (by first | rfl | exact v_int (by omega) | exact v_bool (by simp [*])) (cov_nil))
                      · repeat (first | exact over_nil | refine over_put rfl ?_ | refine over_drop rfl ?_)
                      · exact fun w h => h.pick [0, 1, 2, 3] _ rfl (by decide)
                      · refine ⟨⟨by omega, by rw [hvx, upd, cI, cI, List.map_set]; first | rfl | (congr 2; unfold nw; simp only [cond_true, cond_false]; omega), ?_⟩, by omega⟩
                        rw [bigs_succ, hbg, Bool.false_or, decide_eq_false_iff_not]
                        unfold nw
                        simp only [cond_true, cond_false]
                        omega
          · try (exfalso; omega)
            all_goals
              refine tr_exit ?_
              refine tx_then_exit ?_
              refine tx_then_exit ?_
              refine tx_in_exit ?_
              refine tx_then ?_
              refine tr_seq ?_
              refine tr_region ?_
              refine tl_step rfl (oj_val (y_ldbA 3 Tryd.isAgg56 Tryd.sizeOf56 (fe_t rfl) rfl rfl rfl) ?_)
              refine tl_step rfl (oj_storeW 2 Tryd.sizeOf56 (fe_t rfl) (fe_t rfl) rfl rfl rfl rfl rfl (?_))
              refine tl_step rfl (oj_val (y_assign fe_c) ?_)
              refine tl_nil ?_
              refine tx_then ?_
              refine tr_ret ?_
              refine tx_ret (res2 Tryd.results22 (rok_b 2 Tryd.isAgg56 Tryd.sizeOf56 rfl rfl rfl) (rok_t rfl)) (fun w' hS => ?_)
              obtain rfl : k = R := by omega
              exact ⟨⟨q.1, zs.length, q.2, vx⟩, ⟨hn, hvx⟩, rfl, hS.pick [1] _ rfl (by decide)⟩
end Go.Proofs.YtfcpmcdlgkfolaaDoor.Frac
namespace Go.Proofs.YtfcpmcdlgkfolaaDoor.Seen
open Go.RowKit Go.Proofs.YtfcpmcdlgkfolaaDoor.E Go.Proofs.YtfcpmcdlgkfolaaDoor.Big
theorem rd_v {w0 w : World} {L : List Res} {e s n c : Nat} {A : Option Addr} {xs : List Value} (hS : St w0 w L) (i : Nat) (hi : lget L i = some (vec e s (.slice A n c) n xs)) : Rd w A xs := (E.OwnV.rd (hS.holds i _ hi)).2.2
theorem max_one {zs : List Int} (h : 0 < zs.length) : Slide.mx (zs.take 1) = zs.getD 0 0 := by
  cases zs with
  | nil => simp at h
  | cons a l => rfl
theorem max_next {zs : List Int} {k : Nat} (h0 : 0 < k) (h : k < zs.length) : Slide.mx (zs.take (k + 1)) = max (Slide.mx (zs.take k)) (zs.getD k 0) := by
  rw [Slide.mx_take h h0, Frac.getD_at h]

set_option maxRecDepth 100000 in
set_option maxHeartbeats 1000000 in
theorem maxE (A : Option Addr) (n c : Nat) (zs : List Int) (w : World) (hr : Rd w A (zs.map (.int .i64))) (hn : zs.length = n) (h0 : 0 < n) (hm : n ≤ 140737488355328) :
    Calls Tryd.prog 25 #[.slice A n c] w fun e w' => e = .returned (.int .i64 (Slide.mx zs)) ∧ St w w' [] := by
  refine calls_tr Tryd.func25 Tryd.ntmps25 rfl rfl (St.refl _) ?_
  refine tr_seq ?_
  refine tr_region ?_
  refine tl_step rfl (oj_val (y_assign fe_c) ?_)
  refine tl_nil ?_
  refine tx_then ?_
  refine tr_seq ?_
  refine tr_seq ?_
  refine tr_region ?_
  refine tl_step rfl (oj_val (y_move (fe_t rfl)) ?_)
  refine tl_step rfl (oj_val (y_len Tryd.underlying39 (fe_t rfl)) ?_)
  refine tl_step rfl (oj_val (y_lss (fe_t rfl) fe_c) ?_)
  refine tl_nil ?_
  refine tx_then ?_
  refine tr_condp (fe_t rfl) (fun hq1 => ?_) (fun hq2 => ?_)
  · exfalso; omega
  · refine tr_skip ?_
    refine tx_then ?_
    refine tr_seq ?_
    refine tr_region ?_
    refine tl_step rfl (oj_val (y_move (fe_t rfl)) ?_)
    refine tl_step rfl (oj_val (y_indexI (m := 0) Tryd.underlying39 Tryd.sizeOf3 (fe_t rfl) fe_c (rdl_out hr) (by simp; omega) (by decide) (by decide) (by omega) rfl) ?_)
    refine tl_step rfl (oj_val (y_ld Tryd.isAgg3 (fe_t rfl) (rdl_out hr) (Frac.getDI (zs := zs) (by omega))) ?_)
    refine tl_step rfl (oj_val (y_assign (fe_t rfl)) ?_)
    refine tl_nil ?_
    refine tx_then ?_
    refine tr_seq ?_
    refine tr_seq ?_
    have hm1 := max_one (zs := zs) (by omega)
    refine tr_region ?_
    refine tl_step rfl (oj_val (y_assign fe_c) ?_)
    refine tl_nil ?_
    refine tx_then ?_
    refine tr_block ?_
    refine tr_loop1 [3, 4, 12, 13, 14, 15, 16, 17, 18, 19, 20, 21, 22, 23] (fun (k : Nat) => [(4, .int .i64 (k : Int)), (3, .int .i64 (Slide.mx (zs.take k)))]) 0 (fun (k : Nat) => []) (fun (k : Nat) => 1 ≤ k ∧ k ≤ n) (fun (k : Nat) => n - k) (1) (cov_cons (by first | rfl | exact v_int (by omega) | exact v_bool (by simp [*])) (cov_cons (by first | rfl | exact v_int (by omega) | exact v_bool (by simp [*])) (cov_nil))) (fun w h => h) ?_ ?_
    · try dsimp only
      exact ⟨by omega, by omega⟩
    intro k hp
    obtain ⟨hk1, hk⟩ := hp
    refine tr_seq ?_
    refine tr_seq ?_
    refine tr_region ?_
    refine tl_step rfl (oj_val (y_move (fe_t rfl)) ?_)
    refine tl_step rfl (oj_val (y_move (fe_t rfl)) ?_)
    refine tl_step rfl (oj_val (y_len Tryd.underlying39 (fe_t rfl)) ?_)
    refine tl_step rfl (oj_val (y_lss (fe_t rfl) (fe_t rfl)) ?_)
    refine tl_nil ?_
    refine tx_then ?_
    refine tr_condp (fe_t rfl) (fun hq3 => ?_) (fun hq4 => ?_)
    · refine tr_skip ?_
      refine tx_then ?_
      refine tr_seq ?_
      refine tr_block ?_
      have hmx := max_next (zs := zs) (k := k) (by omega) (by omega)
      refine tr_region ?_
      refine tl_step rfl (oj_val (y_move (fe_t rfl)) ?_)
      refine tl_step rfl (oj_val (y_move (fe_t rfl)) ?_)
      refine tl_step rfl (oj_val (y_move (fe_t rfl)) ?_)
      refine tl_step rfl (oj_val (y_index Tryd.underlying39 Tryd.sizeOf3 (fe_t rfl) (fe_t rfl) (rdl_out hr) (by simp; omega) (by decide) (by omega) (Nat.mul_one _)) ?_)
      refine tl_step rfl (oj_val (y_ld Tryd.isAgg3 (fe_t rfl) (rdl_out hr) (Frac.getDI (zs := zs) (by omega))) ?_)
      refine tl_step rfl (oj_val (y_max (fe_t rfl) (fe_t rfl)) ?_)
      refine tl_step rfl (oj_val (y_assign (fe_t rfl)) ?_)
      refine tl_nil ?_
      refine tx_in ?_
      refine tx_then ?_
      refine tr_region ?_
      refine tl_step rfl (oj_val (y_move (fe_t rfl)) ?_)
      refine tl_step rfl (oj_val (y_inc (fe_t rfl) fe_c (by omega)) ?_)
      refine tl_step rfl (oj_val (y_assign (fe_t rfl)) ?_)
      refine tl_nil ?_
      apply tx_back1 (k + 1)
      · exact (cov_cons (by first | rfl | exact v_int (by omega) | exact v_bool (by simp [*])) (cov_cons (by first | rfl | exact v_int (by omega) | exact v_bool (by simp [*])) (cov_nil)))
      · repeat (first | exact over_nil | refine over_put rfl ?_ | refine over_drop rfl ?_)
      · exact fun w h => h.pick [] _ rfl (by decide)
      · exact ⟨⟨by omega, by omega⟩, by omega⟩
    · refine tr_exit ?_
      refine tx_then_exit ?_
      refine tx_then_exit ?_
      refine tx_in_exit ?_
      refine tx_then ?_
      refine tr_seq ?_
      obtain rfl : k = n := by omega
      refine tr_region ?_
      refine tl_step rfl (oj_val (y_move (fe_t rfl)) ?_)
      refine tl_step rfl (oj_val (y_assign (fe_t rfl)) ?_)
      refine tl_nil ?_
      refine tx_then ?_
      refine tr_ret ?_
      refine tx_ret (res1 Tryd.results25 (rok_t rfl)) (fun w' hS => ?_)
      exact ⟨by rw [List.take_of_length_le (by omega)], hS.pick [] _ rfl (by decide)⟩


theorem newS (ids : List Int) (w : World) :
    Calls Tryd.prog 21 #[.int .i64 3, .int .i64 16] w fun e w' => ∃ v : Vs, (v.n = 48 ∧ v.xs = cI (sk ids 0)) ∧ e = .returned (.tuple #[.agg #[.int .i64 3, .int .i64 16, .slice v.A v.n v.c], .int .i64 0]) ∧ St w w' [vec 3 1 (.slice v.A v.n v.c) v.n v.xs] := by
  refine (Sketch.snew_ok 3 16 48 w (by decide) (by decide)).mono ?_
  rintro e w' ⟨g, -, rfl, hS⟩
  exact ⟨⟨some ⟨g, 0, none⟩, 48, 48, List.replicate 48 (.int .i64 0)⟩, ⟨rfl, by simp [sk, cI]⟩, rfl, hS⟩
theorem u_bd (ids : List Int) (k : Nat) : 0 ≤ u ids k ∧ u ids k < 18446744073709551616 := by unfold u; omega
theorem addS {ids : List Int} {k n : Nat} {xs : List Value} {A : Option Addr} {c : Nat} (w : World) (hr : Rd w A xs) (hx : xs = cI (sk ids k)) (hn : n = 48) (hk : k < ids.length) (hb : ids.length ≤ 100) :
    Calls Tryd.prog 22 #[.agg #[.int .i64 3, .int .i64 16, .slice A n c], .int .u64 (u ids k), .int .i64 1, .bool true] w fun e w' => ∃ v : Vs, (v.n = 48 ∧ v.xs = cI (sk ids (k + 1))) ∧ e = .returned (.tuple #[.agg #[.int .i64 3, .int .i64 16, .slice v.A v.n v.c], .int .i64 0]) ∧ St w w' [vec 3 1 (.slice v.A v.n v.c) v.n v.xs] := by
  subst hx hn
  exact Frac.Aadd_ok (cf := true) (nn := 1) 3 A 48 c (sk ids k) w hr (sk_len ids k) (sk_right (by omega) (by omega)) (u_bd ids k).1 (u_bd ids k).2 (by decide) (by decide) (sk_big (by omega) (by omega))
theorem countS {ids : List Int} {n m : Nat} {xs : List Value} {A : Option Addr} {c : Nat} {v : Int} (w : World) (hr : Rd w A xs) (hx : xs = cI (sk ids n)) (hm : m = 48) (hk : n ≤ ids.length) (hb : ids.length ≤ 100) :
    Calls Tryd.prog 24 #[.agg #[.int .i64 3, .int .i64 16, .slice A m c], .int .u64 (v % 18446744073709551616)] w fun e w' => e = .returned (.tuple #[.int .i64 (least (sk ids n) 16 (v % 18446744073709551616) (3 : Nat)), .int .i64 0]) ∧ St w w' [] := by
  subst hx hm
  exact Frac.count_ok 3 A 48 c (sk ids n) w hr (sk_len ids n) (sk_right hk (by omega)) (by omega) (by omega)
theorem sumE (wd : Int) (A : Option Addr) (n c : Nat) (l : List Int) (w : World) (hr : Rd w A (l.map (.int .i64))) (hn : l.length = n) (h : Slide.bad wd l = false) :
    Calls Tryd.prog 23 #[.int .i64 wd, .slice A n c] w fun e w' => ∃ v : Vs, (v.n = n ∧ v.xs = cI (Slide.sums l wd.toNat n)) ∧ e = .returned (.tuple #[.slice v.A v.n v.c, .int .i64 0]) ∧ St w w' [vec 3 1 (.slice v.A v.n v.c) v.n v.xs] := by
  refine (Slide.sum_ok wd A n c l w hr hn h).mono ?_
  rintro e w' ⟨v, rfl, ho, hb⟩
  have hlen := Slide.sums_len l wd.toNat n
  obtain ⟨A', c', rfl, -, -, -⟩ := OwnI.form ho
  have hv : E.OwnV w' 3 1 (.slice A' (Slide.sums l wd.toNat n).length c') (Slide.sums l wd.toNat n).length (cI (Slide.sums l wd.toNat n)) := E.OwnV.of_own ho
  have hf : ∀ b ∈ (vec 3 1 (.slice A' (Slide.sums l wd.toNat n).length c') (Slide.sums l wd.toNat n).length (cI (Slide.sums l wd.toNat n))).foot, w.heap.size ≤ b ∧ b < w'.heap.size := fun b hb' => World.ownsRow.lt ho b (by simpa [vec] using hb')
  refine ⟨⟨A', (Slide.sums l wd.toNat n).length, c', cI (Slide.sums l wd.toNat n)⟩, ⟨hlen, rfl⟩, rfl, ?_⟩
  exact (St.refl w).add hb hv hf
theorem sumS {ids : List Int} {id wd : Int} {n m : Nat} {xs : List Value} {A : Option Addr} {c : Nat} (w : World) (hr : Rd w A xs) (hx : xs = cI (own ids id n)) (hm : m = n) (hk : n = ids.length) (hb : ids.length ≤ 100) (h0 : 1 ≤ wd) (h1 : wd ≤ 400) :
    Calls Tryd.prog 23 #[.int .i64 wd, .slice A m c] w fun e w' => ∃ v : Vs, (v.n = n ∧ v.xs = cI (Slide.sums (own ids id n) wd.toNat n)) ∧ e = .returned (.tuple #[.slice v.A v.n v.c, .int .i64 0]) ∧ St w w' [vec 3 1 (.slice v.A v.n v.c) v.n v.xs] := by
  subst hx hm
  exact sumE wd A m c _ w hr (own_len (by omega)) (by rw [own_bad (by omega) (by omega)]; simp; omega)
theorem sumB {ids : List Int} {id wd : Int} {n m : Nat} {xs : List Value} {A : Option Addr} {c : Nat} (w : World) (hr : Rd w A xs) (hx : xs = cI (own ids id n)) (hm : m = n) (hk : n = ids.length) (hb : ids.length ≤ 100) (h : wd < 1 ∨ 400 < wd) :
    Calls Tryd.prog 23 #[.int .i64 wd, .slice A m c] w fun e w' => e = .returned (.tuple #[.slice none 0 0, .int .i64 2]) ∧ St w w' [] := by
  subst hx hm
  exact of_bel (Slide.sum_bad wd A m c _ w hr (own_len (by omega)) (by omega) (by rw [own_bad (by omega) (by omega)]; simp; omega))
theorem maxS {zs : List Int} {n m : Nat} {xs : List Value} {A : Option Addr} {c : Nat} (w : World) (hr : Rd w A xs) (hx : xs = cI zs) (hm : m = n) (hk : zs.length = n) (h0 : 0 < n) (hb : n ≤ 100) :
    Calls Tryd.prog 25 #[.slice A m c] w fun e w' => e = .returned (.int .i64 (Slide.mx zs)) ∧ St w w' [] := by
  subst hx hm
  exact maxE A m c zs w hr hk h0 (by omega)

end Go.Proofs.YtfcpmcdlgkfolaaDoor.Seen
