/- The Int library, numbers held together: Set, Neg, Abs. -/
import Derived.Test.YtcpdelkamckmfaaBA
namespace Go.Proofs.Ytcpdelkamckmfaa.Big
open Go.RowKit Go.Proofs.Ytcpdelkamckmfaa.E

theorem copy_is {x : Nm} {z : Int} {A : Option Addr} {c : Nat} (h : x.is z) (hc : 0 + x.n ≤ c) : (⟨x.neg, A, 0 + x.n, c, [] ++ x.ds⟩ : Nm).is z :=
  ⟨by rw [Nat.zero_add]; exact h.len, hc, h.dig, h.trim, h.nz, h.val⟩
theorem nm_ne {q : Nm} {z : Int} (h : q.is z) : q.ds ≠ [] ↔ 0 < q.n := by
  rw [← h.len]
  cases q.ds <;> simp
theorem neg_is {q : Nm} {z : Int} {u : Bool} (h : q.is z) (hu : u = true ↔ q.neg = false ∧ 0 < q.n) : (⟨u, q.A, q.n, q.c, q.ds⟩ : Nm).is (-z) := by
  refine ⟨h.len, h.cap, h.dig, h.trim, fun h1 => (nm_ne h).2 (hu.1 h1).2, ?_⟩
  have hv := h.val
  have hz : q.n = 0 → dval q.ds = 0 := fun h0 => by
    have : q.ds = [] := List.eq_nil_of_length_eq_zero (by rw [h.len, h0])
    rw [this]; rfl
  dsimp only
  cases hn : q.neg <;> rw [hn] at hv <;> cases u <;> simp only [sg, if_true, Bool.false_eq_true, if_false] at hv ⊢
  · have : q.n = 0 := by
      rcases Nat.eq_zero_or_pos q.n with h0 | h0
      · exact h0
      · have := hu.2 ⟨hn, h0⟩; cases this
    have := hz this
    omega
  · omega
  · omega
  · have := (hu.1 rfl).1
    rw [hn] at this; cases this
theorem abs_is {q : Nm} {z : Int} (h : q.is z) : (⟨false, q.A, q.n, q.c, q.ds⟩ : Nm).is (z.natAbs : Int) := by
  refine ⟨h.len, h.cap, h.dig, h.trim, fun h1 => (by cases h1), ?_⟩
  have hv := h.val
  have h0 := dval_nonneg h.dig
  dsimp only
  cases hn : q.neg <;> rw [hn] at hv <;> simp only [sg, if_true, Bool.false_eq_true, if_false] at hv ⊢ <;> omega
set_option maxRecDepth 100000 in
set_option maxHeartbeats 1000000 in
theorem setB {w0 w : World} {T : List Res} {H D : List Nat} {l : List Ent} {b o : Nat} {q : Nm} (hS : St w0 w (bag H D (⟨b, o, q⟩ :: l) :: T)) {b_x o_x : Nat} {x : Nm} {zx : Int} (mx : (⟨b_x, o_x, x⟩ : Ent) ∈ (⟨b, o, q⟩ : Ent) :: l) (hx : x.is zx) (lx : x.n ≤ 100000) :
    Calls Try.prog 115 #[.pointer (some ⟨b, o, none⟩), .pointer (some ⟨b_x, o_x, none⟩)] w fun e w' => ∃ r : B1, r.q.is (zx) ∧ e = .returned (.pointer (some ⟨b, o, none⟩)) ∧ St w0 w' (bag r.H r.D (⟨b, o, r.q⟩ :: l) :: T) := by
  have lx1 := hx.len
  refine calls_tr Try.func115 Try.ntmps115 rfl rfl hS ?_
  refine tr_seq ?_
  refine tr_region ?_
  refine tl_step rfl (oj_val (y_assign fe_c) ?_)
  refine tl_nil ?_
  refine tx_then ?_
  refine tr_seq ?_
  refine tb_draw 14 (sel _ []) (fun w h => h.sel _ rfl (by decide)) rfl ?_
  refine tb_float (i := 0) rfl (by kernel_rfl) rfl (wants_none rfl) (yq_of (y_move (fe_t rfl))) ?_
  refine tb_float (i := 1) rfl (by kernel_rfl) rfl (wants_none rfl) (yq_of (y_move (fe_t rfl))) ?_
  refine tb_float (i := 2) rfl (by kernel_rfl) rfl (wants_none rfl) (yq_of (y_move (fe_t rfl))) ?_
  refine tb_float (i := 3) rfl (by kernel_rfl) rfl (wants_none rfl) (yq_of (y_nilCheck (fe_t rfl))) ?_
  refine tb_float (i := 4) rfl (by kernel_rfl) rfl (wants_none rfl) (yq_of (y_fieldAddr (td := 4) Try.underlying35 rfl rfl Try.sizeOf4 (o' := o_x) rfl (fe_t rfl))) ?_
  refine tb_float1 (i := 5) rfl (by kernel_rfl) (by kernel_rfl) rfl (wants_none rfl) (yq_of (y_ldN1 0 Try.isAgg4 (fe_t rfl) rfl mx)) ?_
  refine tb_float (i := 7) rfl (by kernel_rfl) rfl (wants_none rfl) (yq_of (y_move (fe_t rfl))) ?_
  refine tb_float (i := 8) rfl (by kernel_rfl) rfl (wants_none rfl) (yq_of (y_nilCheck (fe_t rfl))) ?_
  refine tb_float (i := 9) rfl (by kernel_rfl) rfl (wants_none rfl) (yq_of (y_fieldAddr (td := 33) Try.underlying35 rfl rfl Try.sizeOf33 (o' := o_x + 1) rfl (fe_t rfl))) ?_
  refine tb_float1 (i := 10) rfl (by kernel_rfl) (by kernel_rfl) rfl (wants_none rfl) (yq_of (y_ldN2 0 Try.isAgg33 (fe_t rfl) rfl mx)) ?_
  refine tb_one1 (i := 6) rfl (by kernel_rfl) (by kernel_rfl) (wants_none rfl) (oj_slice0 Try.underlying33 Try.sizeOf153 (fun g1 => ⟨fun w h => pickT (l := [_, _]) h [1] rfl (by decide), ?_⟩))
  refine tb_one1 (i := 11) rfl (by kernel_rfl) (by kernel_rfl) (wants_none rfl) (oj_appg (i := 0) (s := 1) (z := (.int .u32 0)) (bytes := 4) Try.underlying33 (by kernel_rfl) (fe_t rfl) (fe_t rfl) rfl (rdl_bag 1 rfl mx) (by rw [cU_len, hx.len, Nat.mul_one]) (by decide) (by first | exact oneI | exact oneF (fun _ => rfl) | exact fun u hu => List.all_eq_true.1 (show List.all _ (fun x => x.oneCell') = true from rfl) u hu | (intro u hu; revert u hu; simp [Value.oneCell'])) ⟨by omega, by decide⟩ (fun Aa1 ca1 hca1 => ⟨fun w h => pickT (l := [_, _]) h [1] rfl (by decide), ?_⟩))
  refine tb_float (i := 12) rfl (by kernel_rfl) rfl (wants_none rfl) (yq_of (y_nilCheck (fe_t rfl))) ?_
  refine tb_float (i := 13) rfl (by kernel_rfl) rfl (wants_none rfl) (yq_of (y_fieldAddr (td := 4) Try.underlying35 rfl rfl Try.sizeOf4 (o' := o) rfl (fe_t rfl))) ?_
  refine tb_one2 (i := 14) rfl (by kernel_rfl) (by kernel_rfl) (wants_none rfl) (oj_stN1 1 0 Try.sizeOf4 (fe_t rfl) (fe_t rfl) rfl rfl (⟨fun w h => h.pick [] _ rfl (by decide), ?_⟩))
  refine tb_float (i := 15) rfl (by kernel_rfl) rfl (wants_none rfl) (yq_of (y_nilCheck (fe_t rfl))) ?_
  refine tb_float (i := 16) rfl (by kernel_rfl) rfl (wants_none rfl) (yq_of (y_fieldAddr (td := 33) Try.underlying35 rfl rfl Try.sizeOf33 (o' := o + 1) rfl (fe_t rfl))) ?_
  refine tb_one2 (i := 17) rfl (by kernel_rfl) (by kernel_rfl) (wants_none rfl) (oj_stN3 1 0 0 Try.sizeOf33 (fe_t rfl) (fe_t rfl) rfl rfl rfl rfl (fun D1 => ⟨fun w h => h.pick [] _ rfl (by decide), ?_⟩))
  refine tb_done (by kernel_rfl) ?_
  refine tx_then ?_
  refine tr_seq ?_
  refine tr_region ?_
  refine tl_step rfl (oj_val (y_move (fe_t rfl)) ?_)
  refine tl_step rfl (oj_val (y_assign (fe_t rfl)) ?_)
  refine tl_nil ?_
  refine tx_then ?_
  refine tr_ret ?_
  refine tx_ret (res1 Try.results115 (rok_t rfl)) (fun w' hS => ?_)
  have hS := pickT (l := [_, _]) hS [1] rfl (by decide)
  have hS' : St w0 w' (bag _ _ ((⟨b, o, _⟩ : Ent) :: l) :: T) := hS
  exact fin1 hS' (copy_is hx hca1)

set_option maxRecDepth 100000 in
set_option maxHeartbeats 1000000 in
theorem negB {w0 w : World} {T : List Res} {H D : List Nat} {l : List Ent} {b o : Nat} {q : Nm} (hS : St w0 w (bag H D (⟨b, o, q⟩ :: l) :: T)) {b_x o_x : Nat} {x : Nm} {zx : Int} (mx : (⟨b_x, o_x, x⟩ : Ent) ∈ (⟨b, o, q⟩ : Ent) :: l) (hx : x.is zx) (lx : x.n ≤ 100000) :
    Calls Try.prog 35 #[.pointer (some ⟨b, o, none⟩), .pointer (some ⟨b_x, o_x, none⟩)] w fun e w' => ∃ r : B1, r.q.is (-zx) ∧ e = .returned (.pointer (some ⟨b, o, none⟩)) ∧ St w0 w' (bag r.H r.D (⟨b, o, r.q⟩ :: l) :: T) := by
  refine calls_tr Try.func35 Try.ntmps35 rfl rfl hS ?_
  refine tr_seq ?_
  refine tr_region ?_
  refine tl_step rfl (oj_val (y_assign fe_c) ?_)
  refine tl_nil ?_
  refine tx_then ?_
  refine tr_seq ?_
  refine tr_region ?_
  refine tl_step rfl (oj_val (y_move (fe_t rfl)) ?_)
  refine tl_step rfl (oj_val (y_move (fe_t rfl)) ?_)
  refine tl_step rfl (oj_call2 Try.call115 fe_f (fel_cons (fe_t rfl) (fel_cons (fe_t rfl) fel_nil)) (fun w' hS => lift1 (p := fun n => n.is (zx)) 0 0 hS rfl rfl (fun T l' hm hS => setB hS (hm _ mx) hx lx)) (fun r1 hr1 => ?_))
  refine tl_nil ?_
  refine tx_then ?_
  refine tr_seq ?_
  refine tr_region ?_
  refine tl_step rfl (oj_val (y_move (fe_t rfl)) ?_)
  refine tl_step rfl (oj_val (y_move (fe_t rfl)) ?_)
  refine tl_step rfl (oj_val (y_nilCheck (fe_t rfl)) ?_)
  refine tl_step rfl (oj_val (y_fieldAddr (td := 4) Try.underlying35 rfl rfl Try.sizeOf4 (o' := o) rfl (fe_t rfl)) ?_)
  refine tl_step rfl (oj_val (y_ldN1 0 Try.isAgg4 (fe_t rfl) rfl (pget_mem 0 rfl)) ?_)
  refine tl_step rfl (oj_val (y_not (fe_t rfl)) ?_)
  refine tl_step rfl (oj_val (y_move (fe_t rfl)) ?_)
  refine tl_split (d := 14) rfl (fun hq1 => ?_) (fun hq2 => ?_)
  · refine tl_want rfl rfl rfl (oj_val (y_move (fe_t rfl)) ?_)
    refine tl_want rfl rfl rfl (oj_val (y_nilCheck (fe_t rfl)) ?_)
    refine tl_want rfl rfl rfl (oj_val (y_fieldAddr (td := 33) Try.underlying35 rfl rfl Try.sizeOf33 (o' := o + 1) rfl (fe_t rfl)) ?_)
    refine tl_want rfl rfl rfl (oj_val (y_ldN2 0 Try.isAgg33 (fe_t rfl) rfl (pget_mem 0 rfl)) ?_)
    refine tl_want rfl rfl rfl (oj_val (y_len Try.underlying33 (fe_t rfl)) ?_)
    refine tl_want rfl rfl rfl (oj_val (y_gtr (fe_t rfl) fe_c) ?_)
    refine tl_step rfl (oj_val (y_pickt (fe_t rfl) (fe_t rfl)) ?_)
    refine tl_step rfl (oj_val (y_nilCheck (fe_t rfl)) ?_)
    refine tl_step rfl (oj_val (y_fieldAddr (td := 4) Try.underlying35 rfl rfl Try.sizeOf4 (o' := o) rfl (fe_t rfl)) ?_)
    refine tl_step rfl (oj_stN1 0 0 Try.sizeOf4 (fe_t rfl) (fe_t rfl) rfl rfl (?_))
    refine tl_nil ?_
    refine tx_then ?_
    refine tr_seq ?_
    refine tr_region ?_
    refine tl_step rfl (oj_val (y_move (fe_t rfl)) ?_)
    refine tl_step rfl (oj_val (y_assign (fe_t rfl)) ?_)
    refine tl_nil ?_
    refine tx_then ?_
    refine tr_ret ?_
    refine tx_ret (res1 Try.results35 (rok_t rfl)) (fun w' hS => ?_)
    have hS' : St w0 w' (bag _ _ ((⟨b, o, _⟩ : Ent) :: l) :: T) := hS
    exact fin1 hS' (neg_is hr1 (by simp_all))
  · refine tl_skip rfl rfl rfl rfl ?_
    refine tl_skip rfl rfl rfl rfl ?_
    refine tl_skip rfl rfl rfl rfl ?_
    refine tl_skip rfl rfl rfl rfl ?_
    refine tl_skip rfl rfl rfl rfl ?_
    refine tl_skip rfl rfl rfl rfl ?_
    refine tl_step rfl (oj_val (y_pickf (fe_t rfl) fe_c) ?_)
    refine tl_step rfl (oj_val (y_nilCheck (fe_t rfl)) ?_)
    refine tl_step rfl (oj_val (y_fieldAddr (td := 4) Try.underlying35 rfl rfl Try.sizeOf4 (o' := o) rfl (fe_t rfl)) ?_)
    refine tl_step rfl (oj_stN1 0 0 Try.sizeOf4 (fe_t rfl) (fe_t rfl) rfl rfl (?_))
    refine tl_nil ?_
    refine tx_then ?_
    refine tr_seq ?_
    refine tr_region ?_
    refine tl_step rfl (oj_val (y_move (fe_t rfl)) ?_)
    refine tl_step rfl (oj_val (y_assign (fe_t rfl)) ?_)
    refine tl_nil ?_
    refine tx_then ?_
    refine tr_ret ?_
    refine tx_ret (res1 Try.results35 (rok_t rfl)) (fun w' hS => ?_)
    have hS' : St w0 w' (bag _ _ ((⟨b, o, _⟩ : Ent) :: l) :: T) := hS
    exact fin1 hS' (neg_is hr1 (by simp_all))

set_option maxRecDepth 100000 in
set_option maxHeartbeats 1000000 in
theorem absB {w0 w : World} {T : List Res} {H D : List Nat} {l : List Ent} {b o : Nat} {q : Nm} (hS : St w0 w (bag H D (⟨b, o, q⟩ :: l) :: T)) {b_x o_x : Nat} {x : Nm} {zx : Int} (mx : (⟨b_x, o_x, x⟩ : Ent) ∈ (⟨b, o, q⟩ : Ent) :: l) (hx : x.is zx) (lx : x.n ≤ 100000) :
    Calls Try.prog 129 #[.pointer (some ⟨b, o, none⟩), .pointer (some ⟨b_x, o_x, none⟩)] w fun e w' => ∃ r : B1, r.q.is ((zx.natAbs : Int)) ∧ e = .returned (.pointer (some ⟨b, o, none⟩)) ∧ St w0 w' (bag r.H r.D (⟨b, o, r.q⟩ :: l) :: T) := by
  refine calls_tr Try.func129 Try.ntmps129 rfl rfl hS ?_
  refine tr_seq ?_
  refine tr_region ?_
  refine tl_step rfl (oj_val (y_assign fe_c) ?_)
  refine tl_nil ?_
  refine tx_then ?_
  refine tr_seq ?_
  refine tr_region ?_
  refine tl_step rfl (oj_val (y_move (fe_t rfl)) ?_)
  refine tl_step rfl (oj_val (y_move (fe_t rfl)) ?_)
  refine tl_step rfl (oj_call2 Try.call115 fe_f (fel_cons (fe_t rfl) (fel_cons (fe_t rfl) fel_nil)) (fun w' hS => lift1 (p := fun n => n.is (zx)) 0 0 hS rfl rfl (fun T l' hm hS => setB hS (hm _ mx) hx lx)) (fun r1 hr1 => ?_))
  refine tl_nil ?_
  refine tx_then ?_
  refine tr_seq ?_
  refine tr_region ?_
  refine tl_step rfl (oj_val (y_move (fe_t rfl)) ?_)
  refine tl_step rfl (oj_val (y_nilCheck (fe_t rfl)) ?_)
  refine tl_step rfl (oj_val (y_fieldAddr (td := 4) Try.underlying35 rfl rfl Try.sizeOf4 (o' := o) rfl (fe_t rfl)) ?_)
  refine tl_step rfl (oj_stN1 0 0 Try.sizeOf4 (fe_t rfl) fe_c rfl rfl (?_))
  refine tl_nil ?_
  refine tx_then ?_
  refine tr_seq ?_
  refine tr_region ?_
  refine tl_step rfl (oj_val (y_move (fe_t rfl)) ?_)
  refine tl_step rfl (oj_val (y_assign (fe_t rfl)) ?_)
  refine tl_nil ?_
  refine tx_then ?_
  refine tr_ret ?_
  refine tx_ret (res1 Try.results129 (rok_t rfl)) (fun w' hS => ?_)
  have hS' : St w0 w' (bag _ _ ((⟨b, o, _⟩ : Ent) :: l) :: T) := hS
  exact fin1 hS' (abs_is hr1)

end Go.Proofs.Ytcpdelkamckmfaa.Big
