/- The Int library, numbers held together: Add, Sub. -/
import Derived.Test.YtpknjfeiiaopgaaBC
import Derived.Test.YtpknjfeiiaopgaaBigC
import Derived.Test.YtpknjfeiiaopgaaBigF
namespace Go.Proofs.Ytpknjfeiiaopgaa.Big
open Go.RowKit Go.Proofs.Ytpknjfeiiaopgaa.E

theorem sumN (A A' : Option Addr) (c c' : Nat) (x y : List Int) (w : World) (hr : Rd w A (cU x)) (hr' : Rd w A' (cU y)) (hx : Dig x) (hy : Dig y) (n m : Nat) (hn : x.length = n) (hm : y.length = m) (lx : n ≤ 100000) (ly : m ≤ 100000) :
    Calls Try.prog 129 #[.slice A n c, .slice A' m c'] w fun e w' => ∃ p : Nm, (p.ds.length = p.n ∧ p.n ≤ p.c ∧ p.n ≤ 200000 ∧ Dig p.ds ∧ dval p.ds =  dval x + dval y) ∧ e = .returned (.slice p.A p.n p.c) ∧ St w w' [p.d] := by
  by_cases hle : m ≤ n
  · exact (sumE_ge A A' c c' x y w hr hr' hx hy n m hn hm lx ly hle).mono fun e w' ⟨p, ⟨h1, h2, h3, h4⟩, he, hS⟩ => ⟨⟨false, p.1, n + 1, p.2.1, p.2.2⟩, ⟨h3, h4, by dsimp only; omega, h1, h2⟩, he, hS⟩
  · exact (sumE_lt A A' c c' x y w hr hr' hx hy n m hn hm lx ly (by omega)).mono fun e w' ⟨p, ⟨h1, h2, h3, h4⟩, he, hS⟩ => ⟨⟨false, p.1, m + 1, p.2.1, p.2.2⟩, ⟨h3, h4, by dsimp only; omega, h1, h2⟩, he, hS⟩
theorem lessN (A A' : Option Addr) (c c' : Nat) (x y : List Int) (w : World) (hr : Rd w A (cU x)) (hr' : Rd w A' (cU y)) (hx : Dig x) (hy : Dig y) (ty : Trim y) (n m : Nat) (hn : x.length = n) (hm : y.length = m) (lx : n ≤ 100000) (hv : dval y ≤ dval x) :
    Calls Try.prog 131 #[.slice A n c, .slice A' m c'] w fun e w' => ∃ p : Nm, (p.ds.length = p.n ∧ p.n ≤ p.c ∧ p.n ≤ 200000 ∧ Dig p.ds ∧ dval p.ds =  dval x - dval y) ∧ e = .returned (.slice p.A p.n p.c) ∧ St w w' [p.d] := by
  have hle : m ≤ n := by
    rcases Nat.lt_or_ge n m with h | h
    · have := lt_len hx hy ty (by omega)
      omega
    · exact h
  exact (lessE A A' c c' x y w hr hr' hx hy n m hn hm lx hle hv).mono fun e w' ⟨p, ⟨h1, h2, h3, h4⟩, he, hS⟩ => ⟨⟨false, p.1, n, p.2.1, p.2.2⟩, ⟨h3, h4, by dsimp only; omega, h1, h2⟩, he, hS⟩
theorem nm_sm {q : Nm} {z : Int} (h : q.is z) (hs : Sm z) : q.n ≤ 1000 := by
  rw [h.val] at hs
  have := Sm.len hs h.trim h.dig
  rw [h.len] at this
  exact this
theorem nm_abs {q : Nm} {z : Int} (h : q.is z) : dval q.ds = (z.natAbs : Int) := by
  have h0 := dval_nonneg h.dig
  have hv := h.val
  cases hn : q.neg <;> rw [hn] at hv <;> simp only [sg, if_true, Bool.false_eq_true, if_false] at hv <;> omega
theorem nm_neg {q : Nm} {z : Int} (h : q.is z) : q.neg = true ↔ z < 0 := by
  have h0 := dval_nonneg h.dig
  have hv := h.val
  cases hn : q.neg <;> rw [hn] at hv <;> simp only [sg, if_true, Bool.false_eq_true, if_false] at hv
  · simp; omega
  · have := (h.trim.pos h.dig).2 (h.nz hn)
    simp; omega
theorem nm_two {q : Nm} {z : Int} (h : q.is z) (h0 : -18446744073709551616 < z) (h1 : z < 18446744073709551616) : q.n ≤ 2 := by
  have := len2 (neg := q.neg) (ds := q.ds) (by rw [← h.val]; exact h0) (by rw [← h.val]; exact h1) h.trim h.dig
  rw [h.len] at this
  exact this
theorem cmp_le {a b : Int} (h : 0 ≤ cmp a b) : b ≤ a := by unfold cmp at h; split at h <;> (try split at h) <;> omega
theorem add_v1 {x y : Nm} {zx zy : Int} (hx : x.is zx) (hy : y.is zy) (h : x.neg = y.neg) : sg x.neg (dval x.ds + dval y.ds) = zx + zy := by
  rw [hx.val, hy.val, h]
  cases y.neg <;> simp [sg]; omega
theorem add_v2 {x y : Nm} {zx zy : Int} (hx : x.is zx) (hy : y.is zy) (h : x.neg ≠ y.neg) : sg x.neg (dval x.ds - dval y.ds) = zx + zy := by
  rw [hx.val, hy.val]
  cases h1 : x.neg <;> cases h2 : y.neg <;> simp_all [sg] <;> omega
theorem y_eqb {P : Program} {N : Nat} {w0 : World} {F : Frm} {L : List Res} {d : Option Tmp} {x y : Operand} {ty t t' : TypeId} {pos : String} {af : Array Edge} {gd : Option (Nat × Bool)} {a b : Bool} (hu : P.underlying t = some .bool) (hx : FE N F x (.bool a)) (hy : FE N F y (.bool b)) : Yld P N w0 F L ⟨d, .binOp .eql t x y t', ty, pos, af, gd⟩ (.bool (a == b)) := y_binop hx hy fun w => by simp [eqGuard, run_eql_bool w t a b hu]
theorem y_quok {P : Program} {N : Nat} {w0 : World} {F : Frm} {L : List Res} {d : Option Tmp} {x y : Operand} {ty t t' : TypeId} {pos : String} {af : Array Edge} {gd : Option (Nat × Bool)} {k : IntKind} {a b : Int} (hx : FE N F x (.int k a)) (hy : FE N F y (.int k b)) (h : 0 ≤ a ∧ 0 < b) (hw : k.wrap (a / b) = a / b) : Yld P N w0 F L ⟨d, .binOp .quo t x y t', ty, pos, af, gd⟩ (.int k (a / b)) := fun c w hF _ => by
  have h1 : b ≠ 0 := by omega
  have h2 : a.tdiv b = a / b := Int.tdiv_eq_ediv_of_nonneg h.1
  simp [execOp, hx c hF, hy c hF, eqGuard, binOp, Op.intDiv, h1, h2, hw]
theorem Sm.natAbs {z : Int} (h : Sm z) : Sm (z.natAbs : Int) := by unfold Sm at *; omega

theorem cmp_lt2 {a b : Int} (h : ¬ 0 ≤ cmp a b) : a < b := by unfold cmp at h; split at h <;> (try split at h) <;> omega
set_option maxRecDepth 100000 in
set_option maxHeartbeats 2000000 in
theorem addB {w0 w : World} {T : List Res} {H D : List Nat} {l : List Ent} {b o : Nat} {q : Nm} (hS : St w0 w (bag H D (⟨b, o, q⟩ :: l) :: T)) {b_x o_x : Nat} {x : Nm} {zx : Int} (mx : (⟨b_x, o_x, x⟩ : Ent) ∈ (⟨b, o, q⟩ : Ent) :: l) {b_y o_y : Nat} {y : Nm} {zy : Int} (my : (⟨b_y, o_y, y⟩ : Ent) ∈ (⟨b, o, q⟩ : Ent) :: l) (hx : x.is zx) (hy : y.is zy) (sx : Sm zx) (sy : Sm zy) :
    Calls Try.prog 104 #[.pointer (some ⟨b, o, none⟩), .pointer (some ⟨b_x, o_x, none⟩), .pointer (some ⟨b_y, o_y, none⟩)] w fun e w' => ∃ r : B1, r.q.is (zx + zy) ∧ e = .returned (.pointer (some ⟨b, o, none⟩)) ∧ St w0 w' (bag r.H r.D (⟨b, o, r.q⟩ :: l) :: T) := by
  have lx1 := hx.len
  have ly1 := hy.len
  have lx := nm_sm hx sx
  have ly := nm_sm hy sy
  refine calls_tr Try.func104 Try.ntmps104 rfl rfl hS ?_
  refine tr_seq ?_
  refine tr_region ?_
  refine tl_step rfl (oj_val (y_assign fe_c) ?_)
  refine tl_nil ?_
  refine tx_then ?_
  refine tr_seq ?_
  refine tr_block ?_
  refine tr_seq ?_
  refine tb_draw 10 (sel _ [0]) (fun w h => h.sel _ rfl (by decide)) rfl ?_
  refine tb_float (i := 0) rfl (by kernel_rfl) rfl (wants_none rfl) (yq_of (y_move (fe_t rfl))) ?_
  refine tb_float (i := 1) rfl (by kernel_rfl) rfl (wants_none rfl) (yq_of (y_nilCheck (fe_t rfl))) ?_
  refine tb_float (i := 2) rfl (by kernel_rfl) rfl (wants_none rfl) (yq_of (y_fieldAddr (td := 4) Try.underlying148 rfl rfl Try.sizeOf4 (o' := o_x) rfl (fe_t rfl))) ?_
  refine tb_float (i := 3) rfl (by kernel_rfl) rfl (wants_none rfl) (yq_of (y_ldN1 0 Try.isAgg4 (fe_t rfl) rfl mx)) ?_
  refine tb_float (i := 4) rfl (by kernel_rfl) rfl (wants_none rfl) (yq_of (y_move (fe_t rfl))) ?_
  refine tb_float (i := 5) rfl (by kernel_rfl) rfl (wants_none rfl) (yq_of (y_nilCheck (fe_t rfl))) ?_
  refine tb_float (i := 6) rfl (by kernel_rfl) rfl (wants_none rfl) (yq_of (y_fieldAddr (td := 4) Try.underlying148 rfl rfl Try.sizeOf4 (o' := o_y) rfl (fe_t rfl))) ?_
  refine tb_float (i := 7) rfl (by kernel_rfl) rfl (wants_none rfl) (yq_of (y_ldN1 0 Try.isAgg4 (fe_t rfl) rfl my)) ?_
  refine tb_float (i := 8) rfl (by kernel_rfl) rfl (wants_none rfl) (yq_of (y_eqb Try.underlying4 (fe_t rfl) (fe_t rfl))) ?_
  refine tb_float (i := 9) rfl (by kernel_rfl) rfl (wants_none rfl) (yq_of (y_assign (fe_t rfl))) ?_
  refine tb_done (by kernel_rfl) ?_
  refine tx_then ?_
  refine tr_cond (fe_t rfl) (fun hq1 => ?_) (fun hq2 => ?_)
  · have h26 := hq1
    refine tb_draw 17 (sel _ []) (fun w h => h.sel _ rfl (by decide)) rfl ?_
    refine tb_float (i := 0) rfl (by kernel_rfl) rfl (wants_none rfl) (yq_of (y_move (fe_t rfl))) ?_
    refine tb_float (i := 1) rfl (by kernel_rfl) rfl (wants_none rfl) (yq_of (y_move (fe_t rfl))) ?_
    refine tb_float (i := 2) rfl (by kernel_rfl) rfl (wants_none rfl) (yq_of (y_move (fe_t rfl))) ?_
    refine tb_float (i := 3) rfl (by kernel_rfl) rfl (wants_none rfl) (yq_of (y_nilCheck (fe_t rfl))) ?_
    refine tb_float (i := 4) rfl (by kernel_rfl) rfl (wants_none rfl) (yq_of (y_fieldAddr (td := 4) Try.underlying148 rfl rfl Try.sizeOf4 (o' := o_x) rfl (fe_t rfl))) ?_
    refine tb_float1 (i := 5) rfl (by kernel_rfl) (by kernel_rfl) rfl (wants_none rfl) (yq_of (y_ldN1 0 Try.isAgg4 (fe_t rfl) rfl mx)) ?_
    refine tb_float (i := 6) rfl (by kernel_rfl) rfl (wants_none rfl) (yq_of (y_move (fe_t rfl))) ?_
    refine tb_float (i := 7) rfl (by kernel_rfl) rfl (wants_none rfl) (yq_of (y_nilCheck (fe_t rfl))) ?_
    refine tb_float (i := 8) rfl (by kernel_rfl) rfl (wants_none rfl) (yq_of (y_fieldAddr (td := 146) Try.underlying148 rfl rfl Try.sizeOf146 (o' := o_x + 1) rfl (fe_t rfl))) ?_
    refine tb_float1 (i := 9) rfl (by kernel_rfl) (by kernel_rfl) rfl (wants_none rfl) (yq_of (y_ldN2 0 Try.isAgg146 (fe_t rfl) rfl mx)) ?_
    refine tb_float (i := 10) rfl (by kernel_rfl) rfl (wants_none rfl) (yq_of (y_move (fe_t rfl))) ?_
    refine tb_float (i := 11) rfl (by kernel_rfl) rfl (wants_none rfl) (yq_of (y_nilCheck (fe_t rfl))) ?_
    refine tb_float (i := 12) rfl (by kernel_rfl) rfl (wants_none rfl) (yq_of (y_fieldAddr (td := 146) Try.underlying148 rfl rfl Try.sizeOf146 (o' := o_y + 1) rfl (fe_t rfl))) ?_
    refine tb_float1 (i := 13) rfl (by kernel_rfl) (by kernel_rfl) rfl (wants_none rfl) (yq_of (y_ldN2 0 Try.isAgg146 (fe_t rfl) rfl my)) ?_
    refine tb_one1 (i := 14) rfl (by kernel_rfl) (by kernel_rfl) (wants_none rfl) (oj_call Try.call129 fe_f (fel_cons (fe_t rfl) (fel_cons (fe_t rfl) fel_nil)) (fun w' hS => sumN _ _ _ _ _ _ w' ((hS.holds 0 _ rfl).ok _ mx).rd ((hS.holds 0 _ rfl).ok _ my).rd hx.dig hy.dig _ _ hx.len hy.len (by omega) (by omega)) (fun p hp => ⟨fun w h => pickT (l := [_, _]) h [1] rfl (by decide), ?_⟩))
    refine tb_float (i := 15) rfl (by kernel_rfl) rfl (wants_none rfl) (yq_of (y_nilCheck (fe_t rfl))) ?_
    refine tb_float (i := 16) rfl (by kernel_rfl) rfl (wants_none rfl) (yq_of (y_fieldAddr (td := 4) Try.underlying148 rfl rfl Try.sizeOf4 (o' := o) rfl (fe_t rfl))) ?_
    refine tb_one2 (i := 17) rfl (by kernel_rfl) (by kernel_rfl) (wants_none rfl) (oj_stN1 1 0 Try.sizeOf4 (fe_t rfl) (fe_t rfl) rfl rfl (⟨fun w h => h.pick [] _ rfl (by decide), ?_⟩))
    refine tb_float (i := 18) rfl (by kernel_rfl) rfl (wants_none rfl) (yq_of (y_nilCheck (fe_t rfl))) ?_
    refine tb_float (i := 19) rfl (by kernel_rfl) rfl (wants_none rfl) (yq_of (y_fieldAddr (td := 146) Try.underlying148 rfl rfl Try.sizeOf146 (o' := o + 1) rfl (fe_t rfl))) ?_
    refine tb_one2 (i := 20) rfl (by kernel_rfl) (by kernel_rfl) (wants_none rfl) (oj_stN3 (ds := p.ds) 1 0 0 Try.sizeOf146 (fe_t rfl) (fe_t rfl) rfl rfl rfl rfl (fun D1 => ⟨fun w h => h.pick [] _ rfl (by decide), ?_⟩))
    refine tb_done (by kernel_rfl) ?_
    refine tx_in ?_
    refine tx_then ?_
    refine tr_seq ?_
    refine tr_region ?_
    refine tl_step rfl (oj_val (y_move (fe_t rfl)) ?_)
    refine tl_step rfl (oj_call2 Try.call128 fe_f (fel_cons (fe_t rfl) fel_nil) (fun w' hS => lift1 (p := fun n => n.is (sg x.neg (dval p.ds))) 1 0 hS rfl rfl (fun T l' hm hS => trimB hS hp.1 hp.2.1 (Nat.le_trans hp.2.2.1 (by decide)) hp.2.2.2.1)) (fun r1 hr1 => ?_))
    refine tl_step rfl (oj_val (y_assign (fe_t rfl)) ?_)
    refine tl_nil ?_
    refine tx_then ?_
    refine tr_ret ?_
    refine tx_ret (res1 Try.results104 (rok_t rfl)) (fun w' hS => ?_)
    rw [hp.2.2.2.2, add_v1 hx hy (by simpa using h26)] at hr1
    have hS := pickT (l := [_, _]) hS [1] rfl (by decide)
    have hS' : St w0 w' (bag _ _ ((⟨b, o, _⟩ : Ent) :: l) :: T) := hS
    exact fin1 hS' hr1
  · have h26 := hq2
    refine tr_seq ?_
    refine tr_region ?_
    refine tl_step rfl (oj_val (y_move (fe_t rfl)) ?_)
    refine tl_step rfl (oj_val (y_move (fe_t rfl)) ?_)
    refine tl_step rfl (oj_callv Try.call130 fe_f (fel_cons (fe_t rfl) (fel_cons (fe_t rfl) fel_nil)) (fun w' hS => of_drn (cmpabs_any _ _ _ _ _ _ _ (bag_int hS 0 rfl mx hx) (bag_int hS 0 rfl my hy) sx sy)) ?_)
    refine tl_step rfl (oj_val (y_geq (fe_t rfl) fe_c) ?_)
    refine tl_step rfl (oj_val (y_assign (fe_t rfl)) ?_)
    refine tl_nil ?_
    refine tx_then ?_
    refine tr_condp (fe_t rfl) (fun hq3 => ?_) (fun hq4 => ?_)
    · have hq2 := hq3
      refine tb_draw 17 (sel _ []) (fun w h => h.sel _ rfl (by decide)) rfl ?_
      refine tb_float (i := 0) rfl (by kernel_rfl) rfl (wants_none rfl) (yq_of (y_move (fe_t rfl))) ?_
      refine tb_float (i := 1) rfl (by kernel_rfl) rfl (wants_none rfl) (yq_of (y_move (fe_t rfl))) ?_
      refine tb_float (i := 2) rfl (by kernel_rfl) rfl (wants_none rfl) (yq_of (y_move (fe_t rfl))) ?_
      refine tb_float (i := 3) rfl (by kernel_rfl) rfl (wants_none rfl) (yq_of (y_nilCheck (fe_t rfl))) ?_
      refine tb_float (i := 4) rfl (by kernel_rfl) rfl (wants_none rfl) (yq_of (y_fieldAddr (td := 4) Try.underlying148 rfl rfl Try.sizeOf4 (o' := o_x) rfl (fe_t rfl))) ?_
      refine tb_float1 (i := 5) rfl (by kernel_rfl) (by kernel_rfl) rfl (wants_none rfl) (yq_of (y_ldN1 0 Try.isAgg4 (fe_t rfl) rfl mx)) ?_
      refine tb_float (i := 6) rfl (by kernel_rfl) rfl (wants_none rfl) (yq_of (y_move (fe_t rfl))) ?_
      refine tb_float (i := 7) rfl (by kernel_rfl) rfl (wants_none rfl) (yq_of (y_nilCheck (fe_t rfl))) ?_
      refine tb_float (i := 8) rfl (by kernel_rfl) rfl (wants_none rfl) (yq_of (y_fieldAddr (td := 146) Try.underlying148 rfl rfl Try.sizeOf146 (o' := o_x + 1) rfl (fe_t rfl))) ?_
      refine tb_float1 (i := 9) rfl (by kernel_rfl) (by kernel_rfl) rfl (wants_none rfl) (yq_of (y_ldN2 0 Try.isAgg146 (fe_t rfl) rfl mx)) ?_
      refine tb_float (i := 10) rfl (by kernel_rfl) rfl (wants_none rfl) (yq_of (y_move (fe_t rfl))) ?_
      refine tb_float (i := 11) rfl (by kernel_rfl) rfl (wants_none rfl) (yq_of (y_nilCheck (fe_t rfl))) ?_
      refine tb_float (i := 12) rfl (by kernel_rfl) rfl (wants_none rfl) (yq_of (y_fieldAddr (td := 146) Try.underlying148 rfl rfl Try.sizeOf146 (o' := o_y + 1) rfl (fe_t rfl))) ?_
      refine tb_float1 (i := 13) rfl (by kernel_rfl) (by kernel_rfl) rfl (wants_none rfl) (yq_of (y_ldN2 0 Try.isAgg146 (fe_t rfl) rfl my)) ?_
      refine tb_one1 (i := 14) rfl (by kernel_rfl) (by kernel_rfl) (wants_none rfl) (oj_call Try.call131 fe_f (fel_cons (fe_t rfl) (fel_cons (fe_t rfl) fel_nil)) (fun w' hS => lessN _ _ _ _ _ _ w' ((hS.holds 0 _ rfl).ok _ mx).rd ((hS.holds 0 _ rfl).ok _ my).rd hx.dig hy.dig hy.trim _ _ hx.len hy.len (by omega) (by rw [nm_abs hx, nm_abs hy]; exact cmp_le hq2)) (fun p hp => ⟨fun w h => pickT (l := [_, _]) h [1] rfl (by decide), ?_⟩))
      refine tb_float (i := 15) rfl (by kernel_rfl) rfl (wants_none rfl) (yq_of (y_nilCheck (fe_t rfl))) ?_
      refine tb_float (i := 16) rfl (by kernel_rfl) rfl (wants_none rfl) (yq_of (y_fieldAddr (td := 4) Try.underlying148 rfl rfl Try.sizeOf4 (o' := o) rfl (fe_t rfl))) ?_
      refine tb_one2 (i := 17) rfl (by kernel_rfl) (by kernel_rfl) (wants_none rfl) (oj_stN1 1 0 Try.sizeOf4 (fe_t rfl) (fe_t rfl) rfl rfl (⟨fun w h => h.pick [] _ rfl (by decide), ?_⟩))
      refine tb_float (i := 18) rfl (by kernel_rfl) rfl (wants_none rfl) (yq_of (y_nilCheck (fe_t rfl))) ?_
      refine tb_float (i := 19) rfl (by kernel_rfl) rfl (wants_none rfl) (yq_of (y_fieldAddr (td := 146) Try.underlying148 rfl rfl Try.sizeOf146 (o' := o + 1) rfl (fe_t rfl))) ?_
      refine tb_one2 (i := 20) rfl (by kernel_rfl) (by kernel_rfl) (wants_none rfl) (oj_stN3 (ds := p.ds) 1 0 0 Try.sizeOf146 (fe_t rfl) (fe_t rfl) rfl rfl rfl rfl (fun D2 => ⟨fun w h => h.pick [] _ rfl (by decide), ?_⟩))
      refine tb_done (by kernel_rfl) ?_
      refine tx_in ?_
      refine tx_then ?_
      refine tr_seq ?_
      refine tr_region ?_
      refine tl_step rfl (oj_val (y_move (fe_t rfl)) ?_)
      refine tl_step rfl (oj_call2 Try.call128 fe_f (fel_cons (fe_t rfl) fel_nil) (fun w' hS => lift1 (p := fun n => n.is (sg x.neg (dval p.ds))) 1 0 hS rfl rfl (fun T l' hm hS => trimB hS hp.1 hp.2.1 (Nat.le_trans hp.2.2.1 (by decide)) hp.2.2.2.1)) (fun r3 hr3 => ?_))
      refine tl_step rfl (oj_val (y_assign (fe_t rfl)) ?_)
      refine tl_nil ?_
      refine tx_then ?_
      refine tr_ret ?_
      refine tx_ret (res1 Try.results104 (rok_t rfl)) (fun w' hS => ?_)
      rw [hp.2.2.2.2, add_v2 hx hy (by simpa using h26)] at hr3
      have hS := pickT (l := [_, _]) hS [1] rfl (by decide)
      have hS' : St w0 w' (bag _ _ ((⟨b, o, _⟩ : Ent) :: l) :: T) := hS
      exact fin1 hS' hr3
    · have hq2 := hq4
      refine tb_draw 17 (sel _ []) (fun w h => h.sel _ rfl (by decide)) rfl ?_
      refine tb_float (i := 0) rfl (by kernel_rfl) rfl (wants_none rfl) (yq_of (y_move (fe_t rfl))) ?_
      refine tb_float (i := 1) rfl (by kernel_rfl) rfl (wants_none rfl) (yq_of (y_move (fe_t rfl))) ?_
      refine tb_float (i := 2) rfl (by kernel_rfl) rfl (wants_none rfl) (yq_of (y_move (fe_t rfl))) ?_
      refine tb_float (i := 3) rfl (by kernel_rfl) rfl (wants_none rfl) (yq_of (y_nilCheck (fe_t rfl))) ?_
      refine tb_float (i := 4) rfl (by kernel_rfl) rfl (wants_none rfl) (yq_of (y_fieldAddr (td := 4) Try.underlying148 rfl rfl Try.sizeOf4 (o' := o_y) rfl (fe_t rfl))) ?_
      refine tb_float1 (i := 5) rfl (by kernel_rfl) (by kernel_rfl) rfl (wants_none rfl) (yq_of (y_ldN1 0 Try.isAgg4 (fe_t rfl) rfl my)) ?_
      refine tb_float (i := 6) rfl (by kernel_rfl) rfl (wants_none rfl) (yq_of (y_move (fe_t rfl))) ?_
      refine tb_float (i := 7) rfl (by kernel_rfl) rfl (wants_none rfl) (yq_of (y_nilCheck (fe_t rfl))) ?_
      refine tb_float (i := 8) rfl (by kernel_rfl) rfl (wants_none rfl) (yq_of (y_fieldAddr (td := 146) Try.underlying148 rfl rfl Try.sizeOf146 (o' := o_y + 1) rfl (fe_t rfl))) ?_
      refine tb_float1 (i := 9) rfl (by kernel_rfl) (by kernel_rfl) rfl (wants_none rfl) (yq_of (y_ldN2 0 Try.isAgg146 (fe_t rfl) rfl my)) ?_
      refine tb_float (i := 10) rfl (by kernel_rfl) rfl (wants_none rfl) (yq_of (y_move (fe_t rfl))) ?_
      refine tb_float (i := 11) rfl (by kernel_rfl) rfl (wants_none rfl) (yq_of (y_nilCheck (fe_t rfl))) ?_
      refine tb_float (i := 12) rfl (by kernel_rfl) rfl (wants_none rfl) (yq_of (y_fieldAddr (td := 146) Try.underlying148 rfl rfl Try.sizeOf146 (o' := o_x + 1) rfl (fe_t rfl))) ?_
      refine tb_float1 (i := 13) rfl (by kernel_rfl) (by kernel_rfl) rfl (wants_none rfl) (yq_of (y_ldN2 0 Try.isAgg146 (fe_t rfl) rfl mx)) ?_
      refine tb_one1 (i := 14) rfl (by kernel_rfl) (by kernel_rfl) (wants_none rfl) (oj_call Try.call131 fe_f (fel_cons (fe_t rfl) (fel_cons (fe_t rfl) fel_nil)) (fun w' hS => lessN _ _ _ _ _ _ w' ((hS.holds 0 _ rfl).ok _ my).rd ((hS.holds 0 _ rfl).ok _ mx).rd hy.dig hx.dig hx.trim _ _ hy.len hx.len (by omega) (by rw [nm_abs hx, nm_abs hy]; have := cmp_lt2 hq2; omega)) (fun p hp => ⟨fun w h => pickT (l := [_, _]) h [1] rfl (by decide), ?_⟩))
      refine tb_float (i := 15) rfl (by kernel_rfl) rfl (wants_none rfl) (yq_of (y_nilCheck (fe_t rfl))) ?_
      refine tb_float (i := 16) rfl (by kernel_rfl) rfl (wants_none rfl) (yq_of (y_fieldAddr (td := 4) Try.underlying148 rfl rfl Try.sizeOf4 (o' := o) rfl (fe_t rfl))) ?_
      refine tb_one2 (i := 17) rfl (by kernel_rfl) (by kernel_rfl) (wants_none rfl) (oj_stN1 1 0 Try.sizeOf4 (fe_t rfl) (fe_t rfl) rfl rfl (⟨fun w h => h.pick [] _ rfl (by decide), ?_⟩))
      refine tb_float (i := 18) rfl (by kernel_rfl) rfl (wants_none rfl) (yq_of (y_nilCheck (fe_t rfl))) ?_
      refine tb_float (i := 19) rfl (by kernel_rfl) rfl (wants_none rfl) (yq_of (y_fieldAddr (td := 146) Try.underlying148 rfl rfl Try.sizeOf146 (o' := o + 1) rfl (fe_t rfl))) ?_
      refine tb_one2 (i := 20) rfl (by kernel_rfl) (by kernel_rfl) (wants_none rfl) (oj_stN3 (ds := p.ds) 1 0 0 Try.sizeOf146 (fe_t rfl) (fe_t rfl) rfl rfl rfl rfl (fun D3 => ⟨fun w h => h.pick [] _ rfl (by decide), ?_⟩))
      refine tb_done (by kernel_rfl) ?_
      refine tx_in ?_
      refine tx_then ?_
      refine tr_seq ?_
      refine tr_region ?_
      refine tl_step rfl (oj_val (y_move (fe_t rfl)) ?_)
      refine tl_step rfl (oj_call2 Try.call128 fe_f (fel_cons (fe_t rfl) fel_nil) (fun w' hS => lift1 (p := fun n => n.is (sg y.neg (dval p.ds))) 1 0 hS rfl rfl (fun T l' hm hS => trimB hS hp.1 hp.2.1 (Nat.le_trans hp.2.2.1 (by decide)) hp.2.2.2.1)) (fun r4 hr4 => ?_))
      refine tl_step rfl (oj_val (y_assign (fe_t rfl)) ?_)
      refine tl_nil ?_
      refine tx_then ?_
      refine tr_ret ?_
      refine tx_ret (res1 Try.results104 (rok_t rfl)) (fun w' hS => ?_)
      rw [hp.2.2.2.2, (add_v2 hy hx (by simpa using Ne.symm (by simpa using h26))).trans (Int.add_comm _ _)] at hr4
      have hS := pickT (l := [_, _]) hS [1] rfl (by decide)
      have hS' : St w0 w' (bag _ _ ((⟨b, o, _⟩ : Ent) :: l) :: T) := hS
      exact fin1 hS' hr4

set_option maxRecDepth 100000 in
set_option maxHeartbeats 2000000 in
theorem subB {w0 w : World} {T : List Res} {H D : List Nat} {l : List Ent} {b o : Nat} {q : Nm} (hS : St w0 w (bag H D (⟨b, o, q⟩ :: l) :: T)) {b_x o_x : Nat} {x : Nm} {zx : Int} (mx : (⟨b_x, o_x, x⟩ : Ent) ∈ (⟨b, o, q⟩ : Ent) :: l) {b_y o_y : Nat} {y : Nm} {zy : Int} (my : (⟨b_y, o_y, y⟩ : Ent) ∈ (⟨b, o, q⟩ : Ent) :: l) (hx : x.is zx) (hy : y.is zy) (sx : Sm zx) (sy : Sm zy) :
    Calls Try.prog 184 #[.pointer (some ⟨b, o, none⟩), .pointer (some ⟨b_x, o_x, none⟩), .pointer (some ⟨b_y, o_y, none⟩)] w fun e w' => ∃ r : B1, r.q.is (zx - zy) ∧ e = .returned (.pointer (some ⟨b, o, none⟩)) ∧ St w0 w' (bag r.H r.D (⟨b, o, r.q⟩ :: l) :: T) := by
  have lx1 := hx.len
  have ly1 := hy.len
  have lx := nm_sm hx sx
  have ly := nm_sm hy sy
  refine calls_tr Try.func184 Try.ntmps184 rfl rfl hS ?_
  refine tr_seq ?_
  refine tr_region ?_
  refine tl_step rfl (oj_val (y_assign fe_c) ?_)
  refine tl_nil ?_
  refine tx_then ?_
  refine tr_seq ?_
  refine tr_region ?_
  refine tl_step rfl (oj_val (y_move (fe_t rfl)) ?_)
  refine tl_step rfl (oj_val (y_move (fe_t rfl)) ?_)
  refine tl_step rfl (oj_allocN 0 Try.zeroValue148 rfl (fun b_i H_i => ?_))
  refine tl_step rfl (oj_val (y_move (fe_t rfl)) ?_)
  refine tl_step rfl (oj_call2 Try.call115 fe_f (fel_cons (fe_t rfl) (fel_cons (fe_t rfl) fel_nil)) (fun w' hS => lift1 (p := fun n => n.is (-(zy))) 0 0 hS rfl rfl (fun T l' hm hS => negB hS (hm _ (List.mem_cons_of_mem _ my)) hy (by omega))) (fun r1 hr1 => ?_))
  refine tl_step rfl (oj_call2 Try.call104 fe_f (fel_cons (fe_t rfl) (fel_cons (fe_t rfl) (fel_cons (fe_t rfl) fel_nil))) (fun w' hS => lift1 (p := fun n => n.is (zx + (-(zy)))) 0 1 hS rfl rfl (fun T l' hm hS => addB hS (hm _ (List.mem_cons_of_mem _ mx)) (hm _ (pget_mem 0 rfl)) hx hr1 sx sy.neg)) (fun r2 hr2 => ?_))
  refine tl_step rfl (oj_val (y_assign (fe_t rfl)) ?_)
  refine tl_nil ?_
  refine tx_then ?_
  refine tr_ret ?_
  refine tx_ret (res1 Try.results184 (rok_t rfl)) (fun w' hS => ?_)
  have hS := St.bagpick (es := [_, _]) 0 hS rfl [1] rfl (by decide)
  have hS' : St w0 w' (bag _ _ ((⟨b, o, _⟩ : Ent) :: l) :: T) := hS
  exact fin1 hS' (by rw [Int.sub_eq_add_neg]; exact hr2)

end Go.Proofs.Ytpknjfeiiaopgaa.Big

namespace Go.Proofs.Ytpknjfeiiaopgaa.Big
open Go.RowKit Go.Proofs.Ytpknjfeiiaopgaa.E

set_option maxRecDepth 100000 in
set_option maxHeartbeats 2000000 in
theorem mulB {w0 w : World} {T : List Res} {H D : List Nat} {l : List Ent} {b o : Nat} {q : Nm} (hS : St w0 w (bag H D (⟨b, o, q⟩ :: l) :: T)) {b_x o_x : Nat} {x : Nm} {zx : Int} (mx : (⟨b_x, o_x, x⟩ : Ent) ∈ (⟨b, o, q⟩ : Ent) :: l) {b_y o_y : Nat} {y : Nm} {zy : Int} (my : (⟨b_y, o_y, y⟩ : Ent) ∈ (⟨b, o, q⟩ : Ent) :: l) (hx : x.is zx) (hy : y.is zy) (lx : x.n ≤ 100000) (ly : y.n ≤ 100000) :
    Calls Try.prog 103 #[.pointer (some ⟨b, o, none⟩), .pointer (some ⟨b_x, o_x, none⟩), .pointer (some ⟨b_y, o_y, none⟩)] w fun e w' => ∃ r : B1, r.q.is (zx * zy) ∧ e = .returned (.pointer (some ⟨b, o, none⟩)) ∧ St w0 w' (bag r.H r.D (⟨b, o, r.q⟩ :: l) :: T) := by
  have lx1 := hx.len
  have ly1 := hy.len
  refine calls_tr Try.func103 Try.ntmps103 rfl rfl hS ?_
  refine tr_seq ?_
  refine tr_region ?_
  refine tl_step rfl (oj_val (y_assign fe_c) ?_)
  refine tl_nil ?_
  refine tx_then ?_
  refine tr_seq ?_
  refine tb_draw 13 (sel _ [0]) (fun w h => h.sel _ rfl (by decide)) rfl ?_
  refine tb_float (i := 0) rfl (by kernel_rfl) rfl (wants_none rfl) (yq_of (y_move (fe_t rfl))) ?_
  refine tb_float (i := 1) rfl (by kernel_rfl) rfl (wants_none rfl) (yq_of (y_nilCheck (fe_t rfl))) ?_
  refine tb_float (i := 2) rfl (by kernel_rfl) rfl (wants_none rfl) (yq_of (y_fieldAddr (td := 146) Try.underlying148 rfl rfl Try.sizeOf146 (o' := o_x + 1) rfl (fe_t rfl))) ?_
  refine tb_float (i := 3) rfl (by kernel_rfl) rfl (wants_none rfl) (yq_of (y_ldN2 0 Try.isAgg146 (fe_t rfl) rfl mx)) ?_
  refine tb_float (i := 4) rfl (by kernel_rfl) rfl (wants_none rfl) (yq_of (y_len Try.underlying146 (fe_t rfl))) ?_
  refine tb_float (i := 5) rfl (by kernel_rfl) rfl (wants_none rfl) (yq_of (y_move (fe_t rfl))) ?_
  refine tb_float (i := 6) rfl (by kernel_rfl) rfl (wants_none rfl) (yq_of (y_nilCheck (fe_t rfl))) ?_
  refine tb_float (i := 7) rfl (by kernel_rfl) rfl (wants_none rfl) (yq_of (y_fieldAddr (td := 146) Try.underlying148 rfl rfl Try.sizeOf146 (o' := o_y + 1) rfl (fe_t rfl))) ?_
  refine tb_float (i := 8) rfl (by kernel_rfl) rfl (wants_none rfl) (yq_of (y_ldN2 0 Try.isAgg146 (fe_t rfl) rfl my)) ?_
  refine tb_float (i := 9) rfl (by kernel_rfl) rfl (wants_none rfl) (yq_of (y_len Try.underlying146 (fe_t rfl))) ?_
  refine tb_float (i := 10) rfl (by kernel_rfl) rfl (wants_none rfl) (yq_of (y_as (b := ((x.n + y.n : Nat) : Int)) (y_add (fe_t rfl) (fe_t rfl) (by omega)) (by omega))) ?_
  refine tb_one2 (i := 11) rfl (by kernel_rfl) (by kernel_rfl) (wants_none rfl) (oj_make (n := x.n + y.n) (z := (.int .u32 0)) (bytes := 4) Try.underlying146 (by kernel_rfl) (fe_t rfl) (fe_t rfl) rfl ⟨by omega, by decide⟩ (fun g => ⟨fun w h => h.pick [1] _ rfl (by decide), ?_⟩))
  refine tb_float (i := 12) rfl (by kernel_rfl) rfl (wants_none rfl) (yq_of (y_assign (fe_t rfl))) ?_
  refine tb_done (by kernel_rfl) ?_
  refine tx_then ?_
  refine tr_seq ?_
  refine tr_seq ?_
  refine tr_region ?_
  refine tl_step rfl (oj_val (y_move (fe_t rfl)) ?_)
  refine tl_step rfl (oj_val (y_nilCheck (fe_t rfl)) ?_)
  refine tl_step rfl (oj_val (y_fieldAddr (td := 146) Try.underlying148 rfl rfl Try.sizeOf146 (o' := o_x + 1) rfl (fe_t rfl)) ?_)
  refine tl_step rfl (oj_val (y_ldN2 1 Try.isAgg146 (fe_t rfl) rfl mx) ?_)
  refine tl_step rfl (oj_val (y_len Try.underlying146 (fe_t rfl)) ?_)
  refine tl_step rfl (oj_val (y_move fe_c) ?_)
  refine tl_nil ?_
  refine tx_then ?_
  refine tr_block ?_
  refine tr_loop3 [8, 9, 10, 11, 12, 30, 31, 32, 33, 34, 35, 36, 37, 38, 39, 40, 41, 42, 43, 44, 45, 46, 47, 48, 49, 50, 51, 52, 53, 54, 55, 56, 57, 58, 59, 60, 61, 62, 63, 64, 65, 66, 67, 68, 69, 70, 71, 72, 73, 74, 75, 76, 77, 78, 79, 80, 81] (fun (i : Nat) (zs : List Int) (vx : List Value) => [(30, .int .i64 (i : Int))]) 0 (fun (i : Nat) (zs : List Int) (vx : List Value) => [(0, vec 195 1 (.slice (some ⟨g, 0, none⟩) (x.n + y.n) (x.n + y.n)) (x.n + y.n) vx)]) (fun (i : Nat) (zs : List Int) (vx : List Value) => i ≤ x.n ∧ vx = cU zs ∧ MulInv x.ds y.ds zs i 0 0) (fun (i : Nat) (zs : List Int) (vx : List Value) => x.n - i) (0) (List.replicate (x.ds.length + y.ds.length) 0) (List.replicate (x.n + y.n) (.int .u32 0)) (cov_cons (by first | rfl | exact v_int (by omega) | exact v_bool (by simp [*])) (cov_nil)) (fun w h => h) ?_ ?_
  · try dsimp only
    exact ⟨by omega, by simp [cU, lx1, ly1], mul_start _ _⟩
  intro i zs vx hp
  obtain ⟨hi, hvx, hmi⟩ := hp
  have hzl := hmi.2.2.1
  refine tr_seq ?_
  refine tr_region ?_
  refine tl_step rfl (oj_val (y_lss (fe_t rfl) (fe_t rfl)) ?_)
  refine tl_nil ?_
  refine tx_then ?_
  refine tr_seq ?_
  refine tr_condp (fe_t rfl) (fun hq1 => ?_) (fun hq2 => ?_)
  · refine tr_skip ?_
    refine tx_then ?_
    refine tr_seq ?_
    refine tr_block ?_
    refine tr_seq ?_
    refine tr_region ?_
    refine tl_step rfl (oj_val (y_move (fe_t rfl)) ?_)
    refine tl_step rfl (oj_val (y_index Try.underlying146 Try.sizeOf195 (fe_t rfl) (fe_t rfl) (rdl_bag 1 rfl mx) (by rw [cU_len, hx.len, Nat.mul_one]) (by decide) (by omega) (Nat.mul_one _)) ?_)
    refine tl_step rfl (oj_val (y_ld (v := .int .u32 (x.ds[i]'(by omega))) Try.isAgg195 (fe_t rfl) (rdl_bag 1 rfl mx) (cU_get (by omega))) ?_)
    refine tl_step rfl (oj_val (y_assign (fe_t rfl)) ?_)
    refine tl_step rfl (oj_val (y_assign (fe_t rfl)) ?_)
    refine tl_nil ?_
    refine tx_then ?_
    refine tr_seq ?_
    refine tr_region ?_
    refine tl_step rfl (oj_val (y_assign fe_c) ?_)
    refine tl_nil ?_
    refine tx_then ?_
    refine tr_seq ?_
    refine tr_seq ?_
    refine tr_region ?_
    refine tl_step rfl (oj_val (y_move (fe_t rfl)) ?_)
    refine tl_step rfl (oj_val (y_nilCheck (fe_t rfl)) ?_)
    refine tl_step rfl (oj_val (y_fieldAddr (td := 146) Try.underlying148 rfl rfl Try.sizeOf146 (o' := o_y + 1) rfl (fe_t rfl)) ?_)
    refine tl_step rfl (oj_val (y_ldN2 1 Try.isAgg146 (fe_t rfl) rfl my) ?_)
    refine tl_step rfl (oj_val (y_len Try.underlying146 (fe_t rfl)) ?_)
    refine tl_step rfl (oj_val (y_move fe_c) ?_)
    refine tl_nil ?_
    refine tx_then ?_
    refine tr_block ?_
    refine tr_loop4 [10, 11, 12, 40, 41, 42, 43, 44, 45, 46, 47, 48, 49, 50, 51, 52, 53, 54, 55, 56, 57, 58, 59, 60, 61, 62, 63, 64, 65, 66, 67, 68, 69] (fun (j : Nat) (zs2 : List Int) (vx2 : List Value) (cc : Int) => [(40, .int .i64 (j : Int)), (10, .int .u64 cc)]) 0 (fun (j : Nat) (zs2 : List Int) (vx2 : List Value) (cc : Int) => [(0, vec 195 1 (.slice (some ⟨g, 0, none⟩) (x.n + y.n) (x.n + y.n)) (x.n + y.n) vx2)]) (fun (j : Nat) (zs2 : List Int) (vx2 : List Value) (cc : Int) => j ≤ y.n ∧ vx2 = cU zs2 ∧ MulInv x.ds y.ds zs2 i j cc) (fun (j : Nat) (zs2 : List Int) (vx2 : List Value) (cc : Int) => y.n - j) (0) (zs) (vx) (0) (cov_cons (by first | rfl | exact v_int (by omega) | exact v_bool (by simp [*])) (cov_cons (by first | rfl | exact v_int (by omega) | exact v_bool (by simp [*])) (cov_nil))) (fun w h => h) ?_ ?_
    · try dsimp only
      exact ⟨by omega, hvx, hmi⟩
    intro j zs2 vx2 cc hp
    obtain ⟨hj, hvx2, hmi2⟩ := hp
    have hzl2 := hmi2.2.2.1
    refine tr_seq ?_
    refine tr_region ?_
    refine tl_step rfl (oj_val (y_lss (fe_t rfl) (fe_t rfl)) ?_)
    refine tl_nil ?_
    refine tx_then ?_
    refine tr_seq ?_
    refine tr_condp (fe_t rfl) (fun hq3 => ?_) (fun hq4 => ?_)
    · refine tr_skip ?_
      refine tx_then ?_
      refine tr_seq ?_
      refine tr_block ?_
      refine tr_seq ?_
      refine tr_region ?_
      refine tl_step rfl (oj_val (y_move (fe_t rfl)) ?_)
      refine tl_step rfl (oj_val (y_index Try.underlying146 Try.sizeOf195 (fe_t rfl) (fe_t rfl) (rdl_bag 1 rfl my) (by rw [cU_len, hy.len, Nat.mul_one]) (by decide) (by omega) (Nat.mul_one _)) ?_)
      refine tl_step rfl (oj_val (y_ld (v := .int .u32 (y.ds[j]'(by omega))) Try.isAgg195 (fe_t rfl) (rdl_bag 1 rfl my) (cU_get (by omega))) ?_)
      refine tl_step rfl (oj_val (y_assign (fe_t rfl)) ?_)
      refine tl_step rfl (oj_val (y_assign (fe_t rfl)) ?_)
      refine tl_nil ?_
      refine tx_then ?_
      refine tr_seq ?_
      have hxi := hx.dig.get (k := i) (by omega)
      have hyj := hy.dig.get (k := j) (by omega)
      have hzk := hmi2.2.2.2.1.get (k := i + j) (by omega)
      have hms := mul_step hmi2 hx.dig hy.dig (i := i) (j := j) (by omega) (by omega) (by omega) rfl
      refine tr_region ?_
      refine tl_step rfl (oj_val (y_move (fe_t rfl)) ?_)
      refine tl_step rfl (oj_val (y_move (fe_t rfl)) ?_)
      refine tl_step rfl (oj_val (y_convi Try.underlying195 Try.underlying117 (fe_t rfl) (IntWalk.u64_in _ (by omega))) ?_)
      refine tl_step rfl (oj_val (y_move (fe_t rfl)) ?_)
      refine tl_step rfl (oj_val (y_convi Try.underlying195 Try.underlying117 (fe_t rfl) (IntWalk.u64_in _ (by omega))) ?_)
      refine tl_step rfl (oj_val (y_mulk (fe_t rfl) (fe_t rfl)) ?_)
      refine tl_step rfl (oj_val (y_move (fe_t rfl)) ?_)
      refine tl_step rfl (oj_val (y_move (fe_t rfl)) ?_)
      refine tl_step rfl (oj_val (y_move (fe_t rfl)) ?_)
      refine tl_step rfl (oj_val (y_as (b := ((i + j : Nat) : Int)) (y_add (fe_t rfl) (fe_t rfl) (by omega)) (by omega)) ?_)
      refine tl_step rfl (oj_val (y_index Try.underlying146 Try.sizeOf195 (fe_t rfl) (fe_t rfl) (rdl_vec 0 rfl) (by first | (rw [hvx2, cU_len]; omega) | (rw [hvx, cU_len]; omega) | (rw [hvx2, List.length_set, cU_len]; omega)) (by decide) (by omega) (Nat.mul_one _)) ?_)
      refine tl_step rfl (oj_val (y_ld (v := .int .u32 (zs2[i + j]'(by omega))) Try.isAgg195 (fe_t rfl) (rdl_vec 0 rfl) (by rw [hvx2]; exact cU_get (by omega))) ?_)
      refine tl_step rfl (oj_val (y_convi Try.underlying195 Try.underlying117 (fe_t rfl) (IntWalk.u64_in _ (by omega))) ?_)
      refine tl_step rfl (oj_val (y_addk (fe_t rfl) (fe_t rfl)) ?_)
      refine tl_step rfl (oj_val (y_as (y_addk (fe_t rfl) (fe_t rfl)) (mul_wrap hxi hyj hzk ⟨hmi2.1, hmi2.2.1⟩)) ?_)
      refine tl_step rfl (oj_val (y_assign (fe_t rfl)) ?_)
      refine tl_nil ?_
      refine tx_then ?_
      refine tr_seq ?_
      refine tr_region ?_
      refine tl_step rfl (oj_val (y_move (fe_t rfl)) ?_)
      refine tl_step rfl (oj_val (y_move (fe_t rfl)) ?_)
      refine tl_step rfl (oj_val (y_move (fe_t rfl)) ?_)
      refine tl_step rfl (oj_val (y_as (b := ((i + j : Nat) : Int)) (y_add (fe_t rfl) (fe_t rfl) (by omega)) (by omega)) ?_)
      refine tl_step rfl (oj_val (y_move (fe_t rfl)) ?_)
      refine tl_step rfl (oj_val (y_as (y_conv Try.underlying117 Try.underlying195 (fe_t rfl)) (wrap_lo _)) ?_)
      refine tl_step rfl (oj_val (y_index Try.underlying146 Try.sizeOf195 (fe_t rfl) (fe_t rfl) (rdl_vec 0 rfl) (by first | (rw [hvx2, cU_len]; omega) | (rw [hvx, cU_len]; omega) | (rw [hvx2, List.length_set, cU_len]; omega)) (by decide) (by omega) (Nat.mul_one _)) ?_)
      refine tl_step rfl (oj_storeE1 (i := 0) Try.sizeOf195 (fe_t rfl) (fe_t rfl) rfl rfl rfl (by omega) (?_))
      refine tl_nil ?_
      refine tx_then ?_
      refine tr_region ?_
      refine tl_step rfl (oj_val (y_move (fe_t rfl)) ?_)
      refine tl_step rfl (oj_val (y_as (y_shr (fe_t rfl) fe_c (by decide)) (shr32 hms.1.1)) ?_)
      refine tl_step rfl (oj_val (y_assign (fe_t rfl)) ?_)
      refine tl_nil ?_
      refine tx_in ?_
      refine tx_then ?_
      refine tr_region ?_
      refine tl_step rfl (oj_val (y_inc (fe_t rfl) fe_c (by omega)) ?_)
      refine tl_step rfl (oj_val (y_move (fe_t rfl)) ?_)
      refine tl_nil ?_
      apply tx_back4 (j + 1) (zs2.set (i + j) ((cc + (x.ds[i]'(by omega) * y.ds[j]'(by omega) + zs2[i + j]'(by omega))) % 4294967296)) (_) ((cc + (x.ds[i]'(by omega) * y.ds[j]'(by omega) + zs2[i + j]'(by omega))) / 4294967296)
      · exact (cov_cons (by first | rfl | exact v_int (by omega) | exact v_bool (by simp [*])) (cov_cons (by first | rfl | exact v_int (by omega) | exact v_bool (by simp [*])) (cov_nil)))
      · repeat (first | exact over_nil | refine over_put rfl ?_ | refine over_drop rfl ?_)
      · exact fun w h => h
      · exact ⟨⟨by omega, by rw [hvx2, cU, cU, List.map_set], hms.2⟩, by omega⟩
    · refine tr_exit ?_
      refine tx_then_exit ?_
      refine tx_then_exit ?_
      refine tx_in_exit ?_
      refine tx_then ?_
      have hcc := hmi2.1
      have hcd := hmi2.2.1
      refine tr_region ?_
      refine tl_step rfl (oj_val (y_move (fe_t rfl)) ?_)
      refine tl_step rfl (oj_val (y_move (fe_t rfl)) ?_)
      refine tl_step rfl (oj_val (y_move (fe_t rfl)) ?_)
      refine tl_step rfl (oj_val (y_nilCheck (fe_t rfl)) ?_)
      refine tl_step rfl (oj_val (y_fieldAddr (td := 146) Try.underlying148 rfl rfl Try.sizeOf146 (o' := o_y + 1) rfl (fe_t rfl)) ?_)
      refine tl_step rfl (oj_val (y_ldN2 1 Try.isAgg146 (fe_t rfl) rfl my) ?_)
      refine tl_step rfl (oj_val (y_len Try.underlying146 (fe_t rfl)) ?_)
      refine tl_step rfl (oj_val (y_as (b := ((i + y.n : Nat) : Int)) (y_add (fe_t rfl) (fe_t rfl) (by omega)) (by omega)) ?_)
      refine tl_step rfl (oj_val (y_move (fe_t rfl)) ?_)
      refine tl_step rfl (oj_val (y_convi Try.underlying117 Try.underlying195 (fe_t rfl) (IntWalk.u32_in _ (by omega))) ?_)
      refine tl_step rfl (oj_val (y_index Try.underlying146 Try.sizeOf195 (fe_t rfl) (fe_t rfl) (rdl_vec 0 rfl) (by first | (rw [hvx2, cU_len]; omega) | (rw [hvx, cU_len]; omega) | (rw [hvx2, List.length_set, cU_len]; omega)) (by decide) (by omega) (Nat.mul_one _)) ?_)
      refine tl_step rfl (oj_storeE1 (i := 0) Try.sizeOf195 (fe_t rfl) (fe_t rfl) rfl rfl rfl (by omega) (?_))
      refine tl_nil ?_
      refine tx_in ?_
      refine tx_then ?_
      refine tr_region ?_
      refine tl_step rfl (oj_val (y_inc (fe_t rfl) fe_c (by omega)) ?_)
      refine tl_step rfl (oj_val (y_move (fe_t rfl)) ?_)
      refine tl_nil ?_
      apply tx_back3 (i + 1) (zs2.set (i + y.n) cc) (_)
      · exact (cov_cons (by first | rfl | exact v_int (by omega) | exact v_bool (by simp [*])) (cov_nil))
      · repeat (first | exact over_nil | refine over_put rfl ?_ | refine over_drop rfl ?_)
      · exact fun w h => h
      · have hje : j = y.ds.length := by omega
        rw [hje] at hmi2
        have hr := mul_row hmi2 (by omega)
        rw [ly1] at hr
        exact ⟨⟨by omega, by rw [hvx2, cU, cU, List.map_set], hr⟩, by omega⟩
  · refine tr_exit ?_
    refine tx_then_exit ?_
    refine tx_then_exit ?_
    refine tx_in_exit ?_
    refine tx_then ?_
    refine tr_seq ?_
    subst hvx
    refine tb_draw 14 (sel _ []) (fun w h => h.sel _ rfl (by decide)) rfl ?_
    refine tb_float (i := 0) rfl (by kernel_rfl) rfl (wants_none rfl) (yq_of (y_move (fe_t rfl))) ?_
    refine tb_float (i := 1) rfl (by kernel_rfl) rfl (wants_none rfl) (yq_of (y_move (fe_t rfl))) ?_
    refine tb_float (i := 2) rfl (by kernel_rfl) rfl (wants_none rfl) (yq_of (y_move (fe_t rfl))) ?_
    refine tb_float (i := 3) rfl (by kernel_rfl) rfl (wants_none rfl) (yq_of (y_nilCheck (fe_t rfl))) ?_
    refine tb_float (i := 4) rfl (by kernel_rfl) rfl (wants_none rfl) (yq_of (y_fieldAddr (td := 4) Try.underlying148 rfl rfl Try.sizeOf4 (o' := o_x) rfl (fe_t rfl))) ?_
    refine tb_float1 (i := 5) rfl (by kernel_rfl) (by kernel_rfl) rfl (wants_none rfl) (yq_of (y_ldN1 1 Try.isAgg4 (fe_t rfl) rfl mx)) ?_
    refine tb_float (i := 6) rfl (by kernel_rfl) rfl (wants_none rfl) (yq_of (y_move (fe_t rfl))) ?_
    refine tb_float (i := 7) rfl (by kernel_rfl) rfl (wants_none rfl) (yq_of (y_nilCheck (fe_t rfl))) ?_
    refine tb_float (i := 8) rfl (by kernel_rfl) rfl (wants_none rfl) (yq_of (y_fieldAddr (td := 4) Try.underlying148 rfl rfl Try.sizeOf4 (o' := o_y) rfl (fe_t rfl))) ?_
    refine tb_float1 (i := 9) rfl (by kernel_rfl) (by kernel_rfl) rfl (wants_none rfl) (yq_of (y_ldN1 1 Try.isAgg4 (fe_t rfl) rfl my)) ?_
    refine tb_float (i := 10) rfl (by kernel_rfl) rfl (wants_none rfl) (yq_of (y_neqb Try.underlying4 (fe_t rfl) (fe_t rfl))) ?_
    refine tb_float (i := 11) rfl (by kernel_rfl) rfl (wants_none rfl) (yq_of (y_move (fe_t rfl))) ?_
    refine tb_float (i := 12) rfl (by kernel_rfl) rfl (wants_none rfl) (yq_of (y_nilCheck (fe_t rfl))) ?_
    refine tb_float (i := 13) rfl (by kernel_rfl) rfl (wants_none rfl) (yq_of (y_fieldAddr (td := 4) Try.underlying148 rfl rfl Try.sizeOf4 (o' := o) rfl (fe_t rfl))) ?_
    refine tb_one2 (i := 14) rfl (by kernel_rfl) (by kernel_rfl) (wants_none rfl) (oj_stN1 1 0 Try.sizeOf4 (fe_t rfl) (fe_t rfl) rfl rfl (⟨fun w h => h.pick [] _ rfl (by decide), ?_⟩))
    refine tb_float (i := 15) rfl (by kernel_rfl) rfl (wants_none rfl) (yq_of (y_nilCheck (fe_t rfl))) ?_
    refine tb_float (i := 16) rfl (by kernel_rfl) rfl (wants_none rfl) (yq_of (y_fieldAddr (td := 146) Try.underlying148 rfl rfl Try.sizeOf146 (o' := o + 1) rfl (fe_t rfl))) ?_
    refine tb_one2 (i := 17) rfl (by kernel_rfl) (by kernel_rfl) (wants_none rfl) (oj_stN3 (ds := zs) 1 0 0 Try.sizeOf146 (fe_t rfl) (fe_t rfl) rfl rfl rfl rfl (fun D1 => ⟨fun w h => h.pick [] _ rfl (by decide), ?_⟩))
    refine tb_done (by kernel_rfl) ?_
    refine tx_then ?_
    refine tr_seq ?_
    refine tr_region ?_
    refine tl_step rfl (oj_val (y_move (fe_t rfl)) ?_)
    refine tl_step rfl (oj_call2 Try.call128 fe_f (fel_cons (fe_t rfl) fel_nil) (fun w' hS => lift1 (p := fun n => n.is (sg (!(x.neg == y.neg)) (dval zs))) 1 0 hS rfl rfl (fun T l' hm hS => trimB hS (by show zs.length = x.n + y.n; omega) (Nat.le_refl _) (by show x.n + y.n ≤ _; omega) hmi.2.2.2.1)) (fun r1 hr1 => ?_))
    refine tl_step rfl (oj_val (y_assign (fe_t rfl)) ?_)
    refine tl_nil ?_
    refine tx_then ?_
    refine tr_ret ?_
    refine tx_ret (res1 Try.results103 (rok_t rfl)) (fun w' hS => ?_)
    have hie : i = x.ds.length := by omega
    rw [hie] at hmi
    rw [mul_end hmi rfl, sg_mul, ← hx.val, ← hy.val] at hr1
    have hS := pickT (l := [_, _]) hS [1] rfl (by decide)
    have hS' : St w0 w' (bag _ _ ((⟨b, o, _⟩ : Ent) :: l) :: T) := hS
    exact fin1 hS' hr1

end Go.Proofs.Ytpknjfeiiaopgaa.Big
