/- QuoRem, Quo, DivMod, Div, Mod. -/
import Derived.Test.YtcpdelkamckmfaaKnB
namespace Go.Proofs.Ytcpdelkamckmfaa.Frac
open Go.RowKit Go.Proofs.Ytcpdelkamckmfaa.E Go.Proofs.Ytcpdelkamckmfaa.Big

theorem partsE (A A' : Option Addr) (c c' : Nat) (x y : List Int) (w : World) (hr : Rd w A (cU x)) (hr' : Rd w A' (cU y)) (hx : Dig x) (hy : Dig y) (n m : Nat) (hn : x.length = n) (hm : y.length = m) (ty : Trim y) (hY : 0 < dval y) (hle : dval y ≤ dval x) (lx : n ≤ 100000) :
    Calls Try.prog 172 #[.slice A n c, .slice A' m c'] w fun e w' => ∃ p : Nm × Nm, ((p.1.ds.length = p.1.n ∧ p.1.n ≤ p.1.c ∧ p.1.n ≤ 200000 ∧ Dig p.1.ds) ∧ (p.2.ds.length = p.2.n ∧ p.2.n ≤ p.2.c ∧ p.2.n ≤ 200000 ∧ Dig p.2.ds) ∧ dval p.1.ds = dval x / dval y ∧ dval p.2.ds = dval x % dval y) ∧ e = .returned (.tuple #[.slice p.1.A p.1.n p.1.c, .slice p.2.A p.2.n p.2.c]) ∧ St w w' [p.1.d, p.2.d] := by
  have hne : y ≠ [] := (ty.pos hy).1 hY
  have hm0 : 0 < m := by
    rcases Nat.eq_zero_or_pos m with h | h
    · exact absurd (List.eq_nil_of_length_eq_zero (hm.trans h)) hne
    · exact h
  have hmn : m ≤ n := by
    rcases Nat.lt_or_ge n m with h | h
    · have := lt_len hx hy ty (by omega)
      omega
    · exact h
  have htop : 0 < y[m - 1]'(by omega) := by
    have h1 := hy.get (k := m - 1) (by omega)
    have h2 := ty (by omega)
    simp only [hm] at h2
    omega
  by_cases h1 : m = 1
  · subst h1
    obtain ⟨v, rfl⟩ : ∃ v, y = [v] := by
      match y, hm with
      | [v], _ => exact ⟨v, rfl⟩
    exact parts_one A A' c c' x v w hr hr' hx ⟨htop, (hy v (List.mem_cons_self ..)).2⟩ n hn lx
  · exact parts_many A A' c c' x y w hr hr' hx hy n m hn hm (by omega) hmn lx htop hY
theorem nm_three {q : Nm} {z : Int} (h : q.is z) (hz : 18446744073709551616 ≤ z.natAbs) : 3 ≤ q.n := by
  have h1 := nm_abs h
  have h2 := dval_lt h.dig
  rw [h.len] at h2
  rcases Nat.lt_or_ge q.n 3 with h3 | h3
  · have h4 := pw_mono (show q.n ≤ 2 by omega)
    have h5 : pw 2 = 18446744073709551616 := rfl
    omega
  · exact h3

set_option maxRecDepth 100000 in
set_option maxHeartbeats 4000000 in
theorem quoremL {w0 w : World} {T : List Res} {H D : List Nat} {l : List Ent} {b o b' o' : Nat} {q r : Nm} (hS : St w0 w (bag H D (⟨b, o, q⟩ :: ⟨b', o', r⟩ :: l) :: T)) {b_x o_x : Nat} {x : Nm} {zx : Int} (mx : (⟨b_x, o_x, x⟩ : Ent) ∈ (⟨b, o, q⟩ : Ent) :: ⟨b', o', r⟩ :: l) {b_y o_y : Nat} {y : Nm} {zy : Int} (my : (⟨b_y, o_y, y⟩ : Ent) ∈ (⟨b, o, q⟩ : Ent) :: ⟨b', o', r⟩ :: l) (hx : x.is zx) (hy : y.is zy) (hy0 : zy ≠ 0) (sx : Sm zx) (sy : Sm zy) (hbig : 18446744073709551616 ≤ zx.natAbs) :
    Calls Try.prog 132 #[.pointer (some ⟨b, o, none⟩), .pointer (some ⟨b_x, o_x, none⟩), .pointer (some ⟨b_y, o_y, none⟩), .pointer (some ⟨b', o', none⟩)] w fun e w' => ∃ r : B2, (r.q.is (zx.tdiv zy) ∧ r.r.is (zx.tmod zy)) ∧ e = .returned (.tuple #[.pointer (some ⟨b, o, none⟩), .pointer (some ⟨b', o', none⟩)]) ∧ St w0 w' (bag r.H r.D (⟨b, o, r.q⟩ :: ⟨b', o', r.r⟩ :: l) :: T) := by
  have lx1 := hx.len
  have ly1 := hy.len
  have lx := nm_sm hx sx
  have ly := nm_sm hy sy
  have l3 := nm_three hx hbig
  refine calls_tr Try.func132 Try.ntmps132 rfl rfl hS ?_
  refine tr_seq ?_
  refine tr_region ?_
  refine tl_step rfl (oj_val (y_assign fe_c) ?_)
  refine tl_step rfl (oj_val (y_assign fe_c) ?_)
  refine tl_nil ?_
  refine tx_then ?_
  refine tr_seq ?_
  refine tr_seq ?_
  refine tr_region ?_
  refine tl_step rfl (oj_val (y_move (fe_t rfl)) ?_)
  refine tl_step rfl (oj_val (y_move (fe_t rfl)) ?_)
  refine tl_step rfl (oj_callv Try.call114 fe_f (fel_cons (fe_t rfl) (fel_cons (fe_t rfl) fel_nil)) (fun w' hS => of_drn (cmpabs_any _ _ _ _ _ _ _ (bag_int hS 0 rfl mx hx) (bag_int hS 0 rfl my hy) sx sy)) ?_)
  refine tl_step rfl (oj_val (y_lss (fe_t rfl) fe_c) ?_)
  refine tl_nil ?_
  refine tx_then ?_
  refine tr_condp (fe_t rfl) (fun hq1 => ?_) (fun hq2 => ?_)
  · have hq1 := hq1
    refine tr_seq ?_
    refine tr_region ?_
    refine tl_step rfl (oj_val (y_move (fe_t rfl)) ?_)
    refine tl_step rfl (oj_val (y_move (fe_t rfl)) ?_)
    refine tl_step rfl (oj_call2 Try.call115 fe_f (fel_cons (fe_t rfl) (fel_cons (fe_t rfl) fel_nil)) (fun w' hS => lift1 (p := fun n_ => n_.is (zx)) 0 1 hS rfl rfl (fun T l' hm hS => setB hS (hm _ mx) hx (by omega))) (fun r2 hr2 => ?_))
    refine tl_nil ?_
    refine tx_then ?_
    refine tr_seq ?_
    refine tr_region ?_
    refine tl_step rfl (oj_val (y_move (fe_t rfl)) ?_)
    refine tl_step rfl (oj_call2 Try.call166 fe_f (fel_cons (fe_t rfl) (fel_cons fe_c fel_nil)) (fun w' hS => lift1 (p := fun n_ => n_.is (0)) 0 0 hS rfl rfl (fun T l' hm hS => setiB hS 0 (by omega) (by omega))) (fun r3 hr3 => ?_))
    refine tl_step rfl (oj_val (y_move (fe_t rfl)) ?_)
    refine tl_step rfl (oj_val (y_assign (fe_t rfl)) ?_)
    refine tl_step rfl (oj_val (y_assign (fe_t rfl)) ?_)
    refine tl_nil ?_
    refine tx_then ?_
    refine tr_ret ?_
    refine tx_then_ret ?_
    refine tx_ret (res2 Try.results132 (rok_t rfl) (rok_t rfl)) (fun w' hS => ?_)
    obtain ⟨e1, e2⟩ := qr_lt (x := zx) (y := zy) (by have := cmp_lt hq1; omega)
    have hS' : St w0 w' (bag _ _ ((⟨b, o, _⟩ : Ent) :: (⟨b', o', _⟩ : Ent) :: l) :: T) := hS
    exact fin2 hS' (by rw [e1]; exact hr3) (by rw [e2]; exact hr2)
  · have hge : zy.natAbs ≤ zx.natAbs := by have := cmp_ge hq2; omega
    refine tr_skip ?_
    refine tx_then ?_
    refine tr_seq ?_
    refine tb_draw 10 (sel _ [0]) (fun w h => h.sel _ rfl (by decide)) rfl ?_
    refine tb_float (i := 0) rfl (by kernel_rfl) rfl (wants_none rfl) (yq_of (y_move (fe_t rfl))) ?_
    refine tb_float (i := 1) rfl (by kernel_rfl) rfl (wants_none rfl) (yq_of (y_nilCheck (fe_t rfl))) ?_
    refine tb_float (i := 2) rfl (by kernel_rfl) rfl (wants_none rfl) (yq_of (y_fieldAddr (td := 4) Try.underlying35 rfl rfl Try.sizeOf4 (o' := o_x) rfl (fe_t rfl))) ?_
    refine tb_float (i := 3) rfl (by kernel_rfl) rfl (wants_none rfl) (yq_of (y_ldN1 0 Try.isAgg4 (fe_t rfl) rfl mx)) ?_
    refine tb_float (i := 4) rfl (by kernel_rfl) rfl (wants_none rfl) (yq_of (y_move (fe_t rfl))) ?_
    refine tb_float (i := 5) rfl (by kernel_rfl) rfl (wants_none rfl) (yq_of (y_nilCheck (fe_t rfl))) ?_
    refine tb_float (i := 6) rfl (by kernel_rfl) rfl (wants_none rfl) (yq_of (y_fieldAddr (td := 4) Try.underlying35 rfl rfl Try.sizeOf4 (o' := o_y) rfl (fe_t rfl))) ?_
    refine tb_float (i := 7) rfl (by kernel_rfl) rfl (wants_none rfl) (yq_of (y_ldN1 0 Try.isAgg4 (fe_t rfl) rfl my)) ?_
    refine tb_float (i := 8) rfl (by kernel_rfl) rfl (wants_none rfl) (yq_of (y_assign (fe_t rfl))) ?_
    refine tb_float (i := 9) rfl (by kernel_rfl) rfl (wants_none rfl) (yq_of (y_assign (fe_t rfl))) ?_
    refine tb_done (by kernel_rfl) ?_
    refine tx_then ?_
    refine tr_seq ?_
    refine tr_seq ?_
    refine tr_region ?_
    refine tl_step rfl (oj_val (y_move (fe_t rfl)) ?_)
    refine tl_step rfl (oj_val (y_nilCheck (fe_t rfl)) ?_)
    refine tl_step rfl (oj_val (y_fieldAddr (td := 33) Try.underlying35 rfl rfl Try.sizeOf33 (o' := o_x + 1) rfl (fe_t rfl)) ?_)
    refine tl_step rfl (oj_val (y_ldN2 0 Try.isAgg33 (fe_t rfl) rfl mx) ?_)
    refine tl_step rfl (oj_val (y_len Try.underlying33 (fe_t rfl)) ?_)
    refine tl_step rfl (oj_val (y_lss (fe_t rfl) fe_c) ?_)
    refine tl_nil ?_
    refine tx_then ?_
    refine tr_condp (fe_t rfl) (fun hq3 => ?_) (fun hq4 => ?_)
    · exfalso; omega
    · refine tr_skip ?_
      refine tx_then ?_
      refine tr_seq ?_
      refine tb_draw 14 (sel _ [0]) (fun w h => h.sel _ rfl (by decide)) rfl ?_
      refine tb_float (i := 0) rfl (by kernel_rfl) rfl (wants_none rfl) (yq_of (y_move (fe_t rfl))) ?_
      refine tb_float (i := 1) rfl (by kernel_rfl) rfl (wants_none rfl) (yq_of (y_nilCheck (fe_t rfl))) ?_
      refine tb_float (i := 2) rfl (by kernel_rfl) rfl (wants_none rfl) (yq_of (y_fieldAddr (td := 33) Try.underlying35 rfl rfl Try.sizeOf33 (o' := o_x + 1) rfl (fe_t rfl))) ?_
      refine tb_float (i := 3) rfl (by kernel_rfl) rfl (wants_none rfl) (yq_of (y_ldN2 0 Try.isAgg33 (fe_t rfl) rfl mx)) ?_
      refine tb_float (i := 4) rfl (by kernel_rfl) rfl (wants_none rfl) (yq_of (y_move (fe_t rfl))) ?_
      refine tb_float (i := 5) rfl (by kernel_rfl) rfl (wants_none rfl) (yq_of (y_nilCheck (fe_t rfl))) ?_
      refine tb_float (i := 6) rfl (by kernel_rfl) rfl (wants_none rfl) (yq_of (y_fieldAddr (td := 33) Try.underlying35 rfl rfl Try.sizeOf33 (o' := o_y + 1) rfl (fe_t rfl))) ?_
      refine tb_float (i := 7) rfl (by kernel_rfl) rfl (wants_none rfl) (yq_of (y_ldN2 0 Try.isAgg33 (fe_t rfl) rfl my)) ?_
      refine tb_one2 (i := 8) rfl (by kernel_rfl) (by kernel_rfl) (wants_none rfl) (oj_call Try.call172 fe_f (fel_cons (fe_t rfl) (fel_cons (fe_t rfl) fel_nil)) (fun w' hS => partsE _ _ _ _ x.ds y.ds w' ((hS.holds 0 _ rfl).ok _ mx).rd ((hS.holds 0 _ rfl).ok _ my).rd hx.dig hy.dig _ _ hx.len hy.len hy.trim (by rw [nm_abs hy]; omega) (by rw [nm_abs hx, nm_abs hy]; omega) (by omega)) (fun p hp => ⟨fun w h => h.pick [2] _ rfl (by decide), ?_⟩))
      refine tb_float (i := 9) rfl (by kernel_rfl) rfl (wants_none rfl) (yq_of (y_move (fe_t rfl))) ?_
      refine tb_float (i := 10) rfl (by kernel_rfl) rfl (wants_none rfl) (yq_of (y_extract (fe_t rfl) rfl)) ?_
      refine tb_float (i := 11) rfl (by kernel_rfl) rfl (wants_none rfl) (yq_of (y_extract (fe_t rfl) rfl)) ?_
      refine tb_float (i := 12) rfl (by kernel_rfl) rfl (wants_none rfl) (yq_of (y_assign (fe_t rfl))) ?_
      refine tb_float (i := 13) rfl (by kernel_rfl) rfl (wants_none rfl) (yq_of (y_assign (fe_t rfl))) ?_
      refine tb_done (by kernel_rfl) ?_
      refine tx_then ?_
      refine tr_seq ?_
      refine tr_region ?_
      refine tl_step rfl (oj_val (y_move (fe_t rfl)) ?_)
      refine tl_step rfl (oj_val (y_move (fe_t rfl)) ?_)
      refine tl_step rfl (oj_val (y_move (fe_t rfl)) ?_)
      refine tl_step rfl (oj_val (y_move (fe_t rfl)) ?_)
      refine tl_step rfl (oj_val (y_neqb Try.underlying4 (fe_t rfl) (fe_t rfl)) ?_)
      refine tl_step rfl (oj_val (y_move (fe_t rfl)) ?_)
      refine tl_step rfl (oj_val (y_nilCheck (fe_t rfl)) ?_)
      refine tl_step rfl (oj_val (y_fieldAddr (td := 4) Try.underlying35 rfl rfl Try.sizeOf4 (o' := o) rfl (fe_t rfl)) ?_)
      refine tl_step rfl (oj_stN1 2 0 Try.sizeOf4 (fe_t rfl) (fe_t rfl) rfl rfl (?_))
      refine tl_step rfl (oj_val (y_nilCheck (fe_t rfl)) ?_)
      refine tl_step rfl (oj_val (y_fieldAddr (td := 33) Try.underlying35 rfl rfl Try.sizeOf33 (o' := o + 1) rfl (fe_t rfl)) ?_)
      refine tl_step rfl (oj_stN3 (ds := p.1.ds) 2 0 0 Try.sizeOf33 (fe_t rfl) (fe_t rfl) rfl rfl rfl rfl (fun D1 => ?_))
      refine tl_nil ?_
      refine tx_then ?_
      refine tr_seq ?_
      refine tr_region ?_
      refine tl_step rfl (oj_val (y_move (fe_t rfl)) ?_)
      refine tl_step rfl (oj_val (y_move (fe_t rfl)) ?_)
      refine tl_step rfl (oj_val (y_move (fe_t rfl)) ?_)
      refine tl_step rfl (oj_val (y_move (fe_t rfl)) ?_)
      refine tl_step rfl (oj_val (y_nilCheck (fe_t rfl)) ?_)
      refine tl_step rfl (oj_val (y_fieldAddr (td := 4) Try.underlying35 rfl rfl Try.sizeOf4 (o' := o') rfl (fe_t rfl)) ?_)
      refine tl_step rfl (oj_stN1 2 1 Try.sizeOf4 (fe_t rfl) (fe_t rfl) rfl rfl (?_))
      refine tl_step rfl (oj_val (y_nilCheck (fe_t rfl)) ?_)
      refine tl_step rfl (oj_val (y_fieldAddr (td := 33) Try.underlying35 rfl rfl Try.sizeOf33 (o' := o' + 1) rfl (fe_t rfl)) ?_)
      refine tl_step rfl (oj_stN3 (ds := p.2.ds) 2 1 1 Try.sizeOf33 (fe_t rfl) (fe_t rfl) rfl rfl rfl rfl (fun D2 => ?_))
      refine tl_nil ?_
      refine tx_then ?_
      refine tr_seq ?_
      refine tr_region ?_
      refine tl_step rfl (oj_val (y_move (fe_t rfl)) ?_)
      refine tl_step rfl (oj_call2 Try.call126 fe_f (fel_cons (fe_t rfl) fel_nil) (fun w' hS => lift1 (p := fun n_ => n_.is (sg (!(x.neg == y.neg)) (dval p.1.ds))) 2 0 hS rfl rfl (fun T l' hm hS => trimB hS hp.1.1 hp.1.2.1 (Nat.le_trans hp.1.2.2.1 (by decide)) hp.1.2.2.2)) (fun r4 hr4 => ?_))
      refine tl_step rfl (oj_val (y_move (fe_t rfl)) ?_)
      refine tl_step rfl (oj_call2 Try.call126 fe_f (fel_cons (fe_t rfl) fel_nil) (fun w' hS => lift1 (p := fun n_ => n_.is (sg x.neg (dval p.2.ds))) 2 1 hS rfl rfl (fun T l' hm hS => trimB hS hp.2.1.1 hp.2.1.2.1 (Nat.le_trans hp.2.1.2.2.1 (by decide)) hp.2.1.2.2.2)) (fun r5 hr5 => ?_))
      refine tl_step rfl (oj_val (y_assign (fe_t rfl)) ?_)
      refine tl_step rfl (oj_val (y_assign (fe_t rfl)) ?_)
      refine tl_nil ?_
      refine tx_then ?_
      refine tr_ret ?_
      refine tx_ret (res2 Try.results132 (rok_t rfl) (rok_t rfl)) (fun w' hS => ?_)
      obtain ⟨e1, e2⟩ := qr_ge (nm_neg hx) (nm_neg hy)
      rw [hp.2.2.1, nm_abs hx, nm_abs hy, e1] at hr4
      rw [hp.2.2.2, nm_abs hx, nm_abs hy, e2] at hr5
      have hS := pickT (l := [_, _, _]) hS [2] rfl (by decide)
      have hS' : St w0 w' (bag _ _ ((⟨b, o, _⟩ : Ent) :: (⟨b', o', _⟩ : Ent) :: l) :: T) := hS
      exact fin2 hS' hr4 hr5

theorem quoremB {w0 w : World} {T : List Res} {H D : List Nat} {l : List Ent} {b o b' o' : Nat} {q r : Nm} (hS : St w0 w (bag H D (⟨b, o, q⟩ :: ⟨b', o', r⟩ :: l) :: T)) {b_x o_x : Nat} {x : Nm} {zx : Int} (mx : (⟨b_x, o_x, x⟩ : Ent) ∈ (⟨b, o, q⟩ : Ent) :: ⟨b', o', r⟩ :: l) {b_y o_y : Nat} {y : Nm} {zy : Int} (my : (⟨b_y, o_y, y⟩ : Ent) ∈ (⟨b, o, q⟩ : Ent) :: ⟨b', o', r⟩ :: l) (hx : x.is zx) (hy : y.is zy) (hy0 : zy ≠ 0) (sx : Sm zx) (sy : Sm zy) :
    Calls Try.prog 132 #[.pointer (some ⟨b, o, none⟩), .pointer (some ⟨b_x, o_x, none⟩), .pointer (some ⟨b_y, o_y, none⟩), .pointer (some ⟨b', o', none⟩)] w fun e w' => ∃ r : B2, (r.q.is (zx.tdiv zy) ∧ r.r.is (zx.tmod zy)) ∧ e = .returned (.tuple #[.pointer (some ⟨b, o, none⟩), .pointer (some ⟨b', o', none⟩)]) ∧ St w0 w' (bag r.H r.D (⟨b, o, r.q⟩ :: ⟨b', o', r.r⟩ :: l) :: T) := by
  by_cases h : 18446744073709551616 ≤ zx.natAbs
  · exact quoremL hS mx my hx hy hy0 sx sy h
  · exact quoremS hS mx my hx hy (by omega) (by omega) hy0 sy

set_option maxRecDepth 100000 in
set_option maxHeartbeats 4000000 in
theorem divmodB {w0 w : World} {T : List Res} {H D : List Nat} {l : List Ent} {b o b' o' : Nat} {q r : Nm} (hS : St w0 w (bag H D (⟨b, o, q⟩ :: ⟨b', o', r⟩ :: l) :: T)) {b_x o_x : Nat} {x : Nm} {zx : Int} (mx : (⟨b_x, o_x, x⟩ : Ent) ∈ (⟨b, o, q⟩ : Ent) :: ⟨b', o', r⟩ :: l) {b_y o_y : Nat} {y : Nm} {zy : Int} (my : (⟨b_y, o_y, y⟩ : Ent) ∈ (⟨b, o, q⟩ : Ent) :: ⟨b', o', r⟩ :: l) (hx : x.is zx) (hy : y.is zy) (hy0 : zy ≠ 0) (sx : Sm zx) (sy : Sm zy) :
    Calls Try.prog 52 #[.pointer (some ⟨b, o, none⟩), .pointer (some ⟨b_x, o_x, none⟩), .pointer (some ⟨b_y, o_y, none⟩), .pointer (some ⟨b', o', none⟩)] w fun e w' => ∃ r : B2, (r.q.is (zx / zy) ∧ r.r.is (zx % zy)) ∧ e = .returned (.tuple #[.pointer (some ⟨b, o, none⟩), .pointer (some ⟨b', o', none⟩)]) ∧ St w0 w' (bag r.H r.D (⟨b, o, r.q⟩ :: ⟨b', o', r.r⟩ :: l) :: T) := by
  have sq : (zx.tdiv zy).natAbs ≤ zx.natAbs := by have h : (zx.tdiv zy).natAbs = zx.natAbs / zy.natAbs := Int.natAbs_tdiv zx zy; rw [h]; exact Nat.div_le_self _ _
  have sr : (zx.tmod zy).natAbs ≤ zx.natAbs := by have h : (zx.tmod zy).natAbs = zx.natAbs % zy.natAbs := Int.natAbs_tmod zx zy; rw [h]; exact Nat.mod_le _ _
  have sq' : Sm (zx.tdiv zy) := by unfold Sm at sx ⊢; omega
  have sr' : Sm (zx.tmod zy) := by unfold Sm at sx ⊢; omega
  have s1 : Sm 1 := sm_of (by omega) (by omega)
  have lx := nm_sm hx sx
  have ly := nm_sm hy sy
  refine calls_tr Try.func52 Try.ntmps52 rfl rfl hS ?_
  refine tr_seq ?_
  refine tr_region ?_
  refine tl_step rfl (oj_val (y_assign fe_c) ?_)
  refine tl_step rfl (oj_val (y_assign fe_c) ?_)
  refine tl_nil ?_
  refine tx_then ?_
  refine tr_seq ?_
  refine tr_region ?_
  refine tl_step rfl (oj_allocN 0 Try.zeroValue35 rfl (fun b_i H_i => ?_))
  refine tl_step rfl (oj_val (y_move (fe_t rfl)) ?_)
  refine tl_step rfl (oj_call2 Try.call115 fe_f (fel_cons (fe_t rfl) (fel_cons (fe_t rfl) fel_nil)) (fun w' hS => lift1 (p := fun n_ => n_.is (zy)) 0 0 hS rfl rfl (fun T l' hm hS => setB hS (hm _ (List.mem_cons_of_mem _ my)) hy (by omega))) (fun r1 hr1 => ?_))
  refine tl_step rfl (oj_val (y_assign (fe_t rfl)) ?_)
  refine tl_nil ?_
  refine tx_then ?_
  refine tr_seq ?_
  refine tr_region ?_
  refine tl_step rfl (oj_val (y_move (fe_t rfl)) ?_)
  refine tl_step rfl (oj_val (y_move (fe_t rfl)) ?_)
  refine tl_step rfl (oj_val (y_move (fe_t rfl)) ?_)
  refine tl_step rfl (oj_val (y_move (fe_t rfl)) ?_)
  refine tl_step rfl (oj_call2 Try.call132 fe_f (fel_cons (fe_t rfl) (fel_cons (fe_t rfl) (fel_cons (fe_t rfl) (fel_cons (fe_t rfl) fel_nil)))) (fun w' hS => lift2 (p := fun m_ n_ => m_.is ((zx).tdiv (zy)) ∧ n_.is ((zx).tmod (zy))) 0 1 2 hS rfl rfl rfl rfl (fun T l' hm hS => quoremB hS (hm _ (List.mem_cons_of_mem _ mx)) (hm _ (List.mem_cons_of_mem _ my)) hx hy hy0 sx sy)) (fun r2 hr2 => ?_))
  refine tl_nil ?_
  refine tx_then ?_
  refine tr_seq ?_
  refine tr_seq ?_
  refine tr_region ?_
  refine tl_step rfl (oj_val (y_move (fe_t rfl)) ?_)
  refine tl_step rfl (oj_val (y_nilCheck (fe_t rfl)) ?_)
  refine tl_step rfl (oj_val (y_fieldAddr (td := 4) Try.underlying35 rfl rfl Try.sizeOf4 (o' := o') rfl (fe_t rfl)) ?_)
  refine tl_step rfl (oj_val (y_ldN1 0 Try.isAgg4 (fe_t rfl) rfl (pget_mem 2 rfl)) ?_)
  refine tl_nil ?_
  refine tx_then ?_
  refine tr_cond (fe_t rfl) (fun hq1 => ?_) (fun hq2 => ?_)
  · have hneg : zx.tmod zy < 0 := (nm_neg hr2.2).1 hq1
    refine tr_seq ?_
    refine tr_region ?_
    refine tl_step rfl (oj_val (y_move (fe_t rfl)) ?_)
    refine tl_step rfl (oj_val (y_nilCheck (fe_t rfl)) ?_)
    refine tl_step rfl (oj_val (y_fieldAddr (td := 4) Try.underlying35 rfl rfl Try.sizeOf4 (o' := 0) rfl (fe_t rfl)) ?_)
    refine tl_step rfl (oj_val (y_ldN1 0 Try.isAgg4 (fe_t rfl) rfl (pget_mem 0 rfl)) ?_)
    refine tl_nil ?_
    refine tx_then ?_
    refine tr_cond (fe_t rfl) (fun hq3 => ?_) (fun hq4 => ?_)
    · have hdn := hq3
      refine tr_seq ?_
      refine tr_region ?_
      refine tl_step rfl (oj_val (y_move (fe_t rfl)) ?_)
      refine tl_step rfl (oj_val (y_move (fe_t rfl)) ?_)
      refine tl_step rfl (oj_call2 Try.call111 fe_f (fel_cons fe_c fel_nil) (fun w' hS => lift 0 hS rfl (fun T hS => newB hS 1 (by omega) (by omega))) (fun r3 hr3 => ?_))
      refine tl_step rfl (oj_call2 Try.call41 fe_f (fel_cons (fe_t rfl) (fel_cons (fe_t rfl) (fel_cons (fe_t rfl) fel_nil))) (fun w' hS => lift1 (p := fun n_ => n_.is (((zx).tdiv (zy)) + 1)) 0 2 hS rfl rfl (fun T l' hm hS => addB hS (hm _ (pget_mem 2 rfl)) (hm _ (pget_mem 0 rfl)) hr2.1 hr3 sq' s1)) (fun r4 hr4 => ?_))
      refine tl_nil ?_
      refine tx_then ?_
      refine tr_region ?_
      refine tl_step rfl (oj_val (y_move (fe_t rfl)) ?_)
      refine tl_step rfl (oj_val (y_move (fe_t rfl)) ?_)
      refine tl_step rfl (oj_val (y_move (fe_t rfl)) ?_)
      refine tl_step rfl (oj_call2 Try.call42 fe_f (fel_cons (fe_t rfl) (fel_cons (fe_t rfl) (fel_cons (fe_t rfl) fel_nil))) (fun w' hS => lift1 (p := fun n_ => n_.is (((zx).tmod (zy)) - zy)) 0 3 hS rfl rfl (fun T l' hm hS => subB hS (hm _ (pget_mem 3 rfl)) (hm _ (pget_mem 1 rfl)) hr2.2 hr1 sr' sy)) (fun r5 hr5 => ?_))
      refine tl_nil ?_
      refine tx_then ?_
      refine tr_seq ?_
      refine tr_region ?_
      refine tl_step rfl (oj_val (y_move (fe_t rfl)) ?_)
      refine tl_step rfl (oj_val (y_move (fe_t rfl)) ?_)
      refine tl_step rfl (oj_val (y_assign (fe_t rfl)) ?_)
      refine tl_step rfl (oj_val (y_assign (fe_t rfl)) ?_)
      refine tl_nil ?_
      refine tx_then ?_
      refine tr_ret ?_
      refine tx_ret (res2 Try.results52 (rok_t rfl) (rok_t rfl)) (fun w' hS => ?_)
      have hn : zx.tmod zy < 0 := hneg
      have hy1 : zy < 0 := (nm_neg hr1).1 (by simpa using hdn)
      obtain ⟨e1, e2⟩ := (em_neg hy0 hn).1 hy1
      have hz : _ := hr4
      have hr : _ := hr5
      rw [e1] at hz
      rw [e2] at hr
      have hS := St.bagpick (es := [_, _, _, _]) 0 hS rfl [2, 3] rfl (by decide)
      have hS' : St w0 w' (bag _ _ ((⟨b, o, _⟩ : Ent) :: (⟨b', o', _⟩ : Ent) :: l) :: T) := hS
      exact fin2 hS' hz hr
    · have hdn := hq4
      refine tr_seq ?_
      refine tr_region ?_
      refine tl_step rfl (oj_val (y_move (fe_t rfl)) ?_)
      refine tl_step rfl (oj_val (y_move (fe_t rfl)) ?_)
      refine tl_step rfl (oj_call2 Try.call111 fe_f (fel_cons fe_c fel_nil) (fun w' hS => lift 0 hS rfl (fun T hS => newB hS 1 (by omega) (by omega))) (fun r6 hr6 => ?_))
      refine tl_step rfl (oj_call2 Try.call42 fe_f (fel_cons (fe_t rfl) (fel_cons (fe_t rfl) (fel_cons (fe_t rfl) fel_nil))) (fun w' hS => lift1 (p := fun n_ => n_.is (((zx).tdiv (zy)) - 1)) 0 2 hS rfl rfl (fun T l' hm hS => subB hS (hm _ (pget_mem 2 rfl)) (hm _ (pget_mem 0 rfl)) hr2.1 hr6 sq' s1)) (fun r7 hr7 => ?_))
      refine tl_nil ?_
      refine tx_then ?_
      refine tr_region ?_
      refine tl_step rfl (oj_val (y_move (fe_t rfl)) ?_)
      refine tl_step rfl (oj_val (y_move (fe_t rfl)) ?_)
      refine tl_step rfl (oj_val (y_move (fe_t rfl)) ?_)
      refine tl_step rfl (oj_call2 Try.call41 fe_f (fel_cons (fe_t rfl) (fel_cons (fe_t rfl) (fel_cons (fe_t rfl) fel_nil))) (fun w' hS => lift1 (p := fun n_ => n_.is (((zx).tmod (zy)) + zy)) 0 3 hS rfl rfl (fun T l' hm hS => addB hS (hm _ (pget_mem 3 rfl)) (hm _ (pget_mem 1 rfl)) hr2.2 hr1 sr' sy)) (fun r8 hr8 => ?_))
      refine tl_nil ?_
      refine tx_then ?_
      refine tr_seq ?_
      refine tr_region ?_
      refine tl_step rfl (oj_val (y_move (fe_t rfl)) ?_)
      refine tl_step rfl (oj_val (y_move (fe_t rfl)) ?_)
      refine tl_step rfl (oj_val (y_assign (fe_t rfl)) ?_)
      refine tl_step rfl (oj_val (y_assign (fe_t rfl)) ?_)
      refine tl_nil ?_
      refine tx_then ?_
      refine tr_ret ?_
      refine tx_ret (res2 Try.results52 (rok_t rfl) (rok_t rfl)) (fun w' hS => ?_)
      have hn : zx.tmod zy < 0 := hneg
      have hy1 : ¬ zy < 0 := fun h => by have := (nm_neg hr1).2 h; simp_all
      obtain ⟨e1, e2⟩ := (em_neg hy0 hn).2 hy1
      have hz : _ := hr7
      have hr : _ := hr8
      rw [e1] at hz
      rw [e2] at hr
      have hS := St.bagpick (es := [_, _, _, _]) 0 hS rfl [2, 3] rfl (by decide)
      have hS' : St w0 w' (bag _ _ ((⟨b, o, _⟩ : Ent) :: (⟨b', o', _⟩ : Ent) :: l) :: T) := hS
      exact fin2 hS' hz hr
  · refine tr_skip ?_
    refine tx_then ?_
    refine tr_seq ?_
    refine tr_region ?_
    refine tl_step rfl (oj_val (y_move (fe_t rfl)) ?_)
    refine tl_step rfl (oj_val (y_move (fe_t rfl)) ?_)
    refine tl_step rfl (oj_val (y_assign (fe_t rfl)) ?_)
    refine tl_step rfl (oj_val (y_assign (fe_t rfl)) ?_)
    refine tl_nil ?_
    refine tx_then ?_
    refine tr_ret ?_
    refine tx_ret (res2 Try.results52 (rok_t rfl) (rok_t rfl)) (fun w' hS => ?_)
    have hn : ¬ zx.tmod zy < 0 := fun h => by have := (nm_neg hr2.2).2 h; simp_all
    obtain ⟨e1, e2⟩ := em_pos hn
    have hz : _ := hr2.1
    have hr : _ := hr2.2
    rw [e1] at hz
    rw [e2] at hr
    have hS := St.bagpick (es := [_, _, _]) 0 hS rfl [1, 2] rfl (by decide)
    have hS' : St w0 w' (bag _ _ ((⟨b, o, _⟩ : Ent) :: (⟨b', o', _⟩ : Ent) :: l) :: T) := hS
    exact fin2 hS' hz hr

set_option maxRecDepth 100000 in
set_option maxHeartbeats 2000000 in
theorem quoB {w0 w : World} {T : List Res} {H D : List Nat} {l : List Ent} {b o : Nat} {q : Nm} (hS : St w0 w (bag H D (⟨b, o, q⟩ :: l) :: T)) {b_x o_x : Nat} {x : Nm} {zx : Int} (mx : (⟨b_x, o_x, x⟩ : Ent) ∈ (⟨b, o, q⟩ : Ent) :: l) {b_y o_y : Nat} {y : Nm} {zy : Int} (my : (⟨b_y, o_y, y⟩ : Ent) ∈ (⟨b, o, q⟩ : Ent) :: l) (hx : x.is zx) (hy : y.is zy) (hy0 : zy ≠ 0) (sx : Sm zx) (sy : Sm zy) :
    Calls Try.prog 164 #[.pointer (some ⟨b, o, none⟩), .pointer (some ⟨b_x, o_x, none⟩), .pointer (some ⟨b_y, o_y, none⟩)] w fun e w' => ∃ r : B1, r.q.is (zx.tdiv zy) ∧ e = .returned (.pointer (some ⟨b, o, none⟩)) ∧ St w0 w' (bag r.H r.D (⟨b, o, r.q⟩ :: l) :: T) := by
  refine calls_tr Try.func164 Try.ntmps164 rfl rfl hS ?_
  refine tr_seq ?_
  refine tr_region ?_
  refine tl_step rfl (oj_val (y_assign fe_c) ?_)
  refine tl_nil ?_
  refine tx_then ?_
  refine tr_seq ?_
  refine tr_region ?_
  refine tl_step rfl (oj_val (y_move (fe_t rfl)) ?_)
  refine tl_step rfl (oj_val (y_move (fe_t rfl)) ?_)
  refine tl_step rfl (oj_val (y_move (fe_t rfl)) ?_)
  refine tl_step rfl (oj_allocN 0 Try.zeroValue35 rfl (fun b_i H_i => ?_))
  refine tl_step rfl (oj_call2 Try.call132 fe_f (fel_cons (fe_t rfl) (fel_cons (fe_t rfl) (fel_cons (fe_t rfl) (fel_cons (fe_t rfl) fel_nil)))) (fun w' hS => lift2 (p := fun m_ n_ => m_.is ((zx).tdiv (zy)) ∧ n_.is ((zx).tmod (zy))) 0 1 0 hS rfl rfl rfl rfl (fun T l' hm hS => quoremB hS (hm _ (List.mem_cons_of_mem _ mx)) (hm _ (List.mem_cons_of_mem _ my)) hx hy hy0 sx sy)) (fun r1 hr1 => ?_))
  refine tl_nil ?_
  refine tx_then ?_
  refine tr_seq ?_
  refine tr_region ?_
  refine tl_step rfl (oj_val (y_move (fe_t rfl)) ?_)
  refine tl_step rfl (oj_val (y_assign (fe_t rfl)) ?_)
  refine tl_nil ?_
  refine tx_then ?_
  refine tr_ret ?_
  refine tx_ret (res1 Try.results164 (rok_t rfl)) (fun w' hS => ?_)
  have hS := St.bagpick (es := [_, _]) 0 hS rfl [1] rfl (by decide)
  have hS' : St w0 w' (bag _ _ ((⟨b, o, _⟩ : Ent) :: l) :: T) := hS
  exact fin1 hS' hr1.1

set_option maxRecDepth 100000 in
set_option maxHeartbeats 2000000 in
theorem divB {w0 w : World} {T : List Res} {H D : List Nat} {l : List Ent} {b o : Nat} {q : Nm} (hS : St w0 w (bag H D (⟨b, o, q⟩ :: l) :: T)) {b_x o_x : Nat} {x : Nm} {zx : Int} (mx : (⟨b_x, o_x, x⟩ : Ent) ∈ (⟨b, o, q⟩ : Ent) :: l) {b_y o_y : Nat} {y : Nm} {zy : Int} (my : (⟨b_y, o_y, y⟩ : Ent) ∈ (⟨b, o, q⟩ : Ent) :: l) (hx : x.is zx) (hy : y.is zy) (hy0 : zy ≠ 0) (sx : Sm zx) (sy : Sm zy) :
    Calls Try.prog 32 #[.pointer (some ⟨b, o, none⟩), .pointer (some ⟨b_x, o_x, none⟩), .pointer (some ⟨b_y, o_y, none⟩)] w fun e w' => ∃ r : B1, r.q.is (zx / zy) ∧ e = .returned (.pointer (some ⟨b, o, none⟩)) ∧ St w0 w' (bag r.H r.D (⟨b, o, r.q⟩ :: l) :: T) := by
  refine calls_tr Try.func32 Try.ntmps32 rfl rfl hS ?_
  refine tr_seq ?_
  refine tr_region ?_
  refine tl_step rfl (oj_val (y_assign fe_c) ?_)
  refine tl_nil ?_
  refine tx_then ?_
  refine tr_seq ?_
  refine tr_region ?_
  refine tl_step rfl (oj_val (y_move (fe_t rfl)) ?_)
  refine tl_step rfl (oj_val (y_move (fe_t rfl)) ?_)
  refine tl_step rfl (oj_val (y_move (fe_t rfl)) ?_)
  refine tl_step rfl (oj_allocN 0 Try.zeroValue35 rfl (fun b_i H_i => ?_))
  refine tl_step rfl (oj_call2 Try.call52 fe_f (fel_cons (fe_t rfl) (fel_cons (fe_t rfl) (fel_cons (fe_t rfl) (fel_cons (fe_t rfl) fel_nil)))) (fun w' hS => lift2 (p := fun m_ n_ => m_.is (zx / zy) ∧ n_.is (zx % zy)) 0 1 0 hS rfl rfl rfl rfl (fun T l' hm hS => divmodB hS (hm _ (List.mem_cons_of_mem _ mx)) (hm _ (List.mem_cons_of_mem _ my)) hx hy hy0 sx sy)) (fun r1 hr1 => ?_))
  refine tl_nil ?_
  refine tx_then ?_
  refine tr_seq ?_
  refine tr_region ?_
  refine tl_step rfl (oj_val (y_move (fe_t rfl)) ?_)
  refine tl_step rfl (oj_val (y_assign (fe_t rfl)) ?_)
  refine tl_nil ?_
  refine tx_then ?_
  refine tr_ret ?_
  refine tx_ret (res1 Try.results32 (rok_t rfl)) (fun w' hS => ?_)
  have hS := St.bagpick (es := [_, _]) 0 hS rfl [1] rfl (by decide)
  have hS' : St w0 w' (bag _ _ ((⟨b, o, _⟩ : Ent) :: l) :: T) := hS
  exact fin1 hS' hr1.1

set_option maxRecDepth 100000 in
set_option maxHeartbeats 2000000 in
theorem modB {w0 w : World} {T : List Res} {H D : List Nat} {l : List Ent} {b o : Nat} {q : Nm} (hS : St w0 w (bag H D (⟨b, o, q⟩ :: l) :: T)) {b_x o_x : Nat} {x : Nm} {zx : Int} (mx : (⟨b_x, o_x, x⟩ : Ent) ∈ (⟨b, o, q⟩ : Ent) :: l) {b_y o_y : Nat} {y : Nm} {zy : Int} (my : (⟨b_y, o_y, y⟩ : Ent) ∈ (⟨b, o, q⟩ : Ent) :: l) (hx : x.is zx) (hy : y.is zy) (hy0 : zy ≠ 0) (sx : Sm zx) (sy : Sm zy) :
    Calls Try.prog 121 #[.pointer (some ⟨b, o, none⟩), .pointer (some ⟨b_x, o_x, none⟩), .pointer (some ⟨b_y, o_y, none⟩)] w fun e w' => ∃ r : B1, r.q.is (zx % zy) ∧ e = .returned (.pointer (some ⟨b, o, none⟩)) ∧ St w0 w' (bag r.H r.D (⟨b, o, r.q⟩ :: l) :: T) := by
  refine calls_tr Try.func121 Try.ntmps121 rfl rfl hS ?_
  refine tr_seq ?_
  refine tr_region ?_
  refine tl_step rfl (oj_val (y_assign fe_c) ?_)
  refine tl_nil ?_
  refine tx_then ?_
  refine tr_seq ?_
  refine tr_region ?_
  refine tl_step rfl (oj_allocN 0 Try.zeroValue35 rfl (fun b_i H_i => ?_))
  refine tl_step rfl (oj_val (y_move (fe_t rfl)) ?_)
  refine tl_step rfl (oj_val (y_move (fe_t rfl)) ?_)
  refine tl_step rfl (oj_val (y_move (fe_t rfl)) ?_)
  refine tl_step rfl (oj_call2 Try.call52 fe_f (fel_cons (fe_t rfl) (fel_cons (fe_t rfl) (fel_cons (fe_t rfl) (fel_cons (fe_t rfl) fel_nil)))) (fun w' hS => lift2 (p := fun m_ n_ => m_.is (zx / zy) ∧ n_.is (zx % zy)) 0 0 1 hS rfl rfl rfl rfl (fun T l' hm hS => divmodB hS (hm _ (List.mem_cons_of_mem _ mx)) (hm _ (List.mem_cons_of_mem _ my)) hx hy hy0 sx sy)) (fun r1 hr1 => ?_))
  refine tl_nil ?_
  refine tx_then ?_
  refine tr_seq ?_
  refine tr_region ?_
  refine tl_step rfl (oj_val (y_move (fe_t rfl)) ?_)
  refine tl_step rfl (oj_val (y_assign (fe_t rfl)) ?_)
  refine tl_nil ?_
  refine tx_then ?_
  refine tr_ret ?_
  refine tx_ret (res1 Try.results121 (rok_t rfl)) (fun w' hS => ?_)
  have hS := St.bagpick (es := [_, _]) 0 hS rfl [1] rfl (by decide)
  have hS' : St w0 w' (bag _ _ ((⟨b, o, _⟩ : Ent) :: l) :: T) := hS
  exact fin1 hS' hr1.2

end Go.Proofs.Ytcpdelkamckmfaa.Frac
