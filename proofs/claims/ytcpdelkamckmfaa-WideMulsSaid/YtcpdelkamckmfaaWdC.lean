/- Wide numbers made. -/
import Derived.Test.YtcpdelkamckmfaaWdB
namespace Go.Proofs.Ytcpdelkamckmfaa.Frac
open Go.RowKit Go.Proofs.Ytcpdelkamckmfaa.E Go.Proofs.Ytcpdelkamckmfaa.Big

section
variable {P : Program} {N : Nat} {w0 : World} {ops : Array Oper} {Q : Exit → Act → World → Prop} {F : Frm} {L S1 S2 : List Res} {listed : Array Bool} {n k0 : Nat}
/-- Two that no order binds. -/
theorem tb_two2 {i j : Nat} {o u : Oper} (hi : ops[i]? = some o) (hj : ops[j]? = some u) (hr : Region.ready .any ops listed = [i, j]) (hb : (listed.setIfInBounds i true).getD k0 true = true) (hb2 : (listed.setIfInBounds j true).getD k0 true = true) (hw : Wants N ops F o true) (hw2 : Wants N ops F u true)
    (h : OpJ P N w0 F L o (fun F' L' => (∀ w, St w0 w L' → St w0 w S2) ∧ TB P N w0 ops Q k0 S1 S2 n (listed.setIfInBounds i true) F' L'))
    (h' : OpJ P N w0 F L u (fun F' L' => (∀ w, St w0 w L' → St w0 w S2) ∧ TB P N w0 ops Q k0 S1 S2 n (listed.setIfInBounds j true) F' L')) : TB P N w0 ops Q k0 S1 S2 (n + 1) listed F L := fun h12 a w hF hS hC => by
  refine ⟨fun h0 => (by rw [hr] at h0; cases h0), fun m hm => ?_⟩
  rw [hr] at hm
  simp only [List.mem_cons, List.not_mem_nil, or_false] at hm
  unfold cOp
  rcases hm with rfl | rfl
  · simp only [hi, hw a hF, if_true]
    refine wp_of_noQ (fun a' w' ⟨F', L', ⟨h1, h2⟩, h3, h4⟩ w'' hw'' => ?_) (h a w hF hS)
    have hc : CC w0 k0 S1 S2 (listed.setIfInBounds m true) w'' := by unfold CC; rw [hb]; exact h1 _ (h4.grow hw'')
    exact ⟨hc, h2 h12 a' w'' h3 (h4.grow hw'') hc⟩
  · simp only [hj, hw2 a hF, if_true]
    refine wp_of_noQ (fun a' w' ⟨F', L', ⟨h1, h2⟩, h3, h4⟩ w'' hw'' => ?_) (h' a w hF hS)
    have hc : CC w0 k0 S1 S2 (listed.setIfInBounds m true) w'' := by unfold CC; rw [hb2]; exact h1 _ (h4.grow hw'')
    exact ⟨hc, h2 h12 a' w'' h3 (h4.grow hw'') hc⟩
end

theorem lsh64 {w0 w : World} {T : List Res} {H D : List Nat} {l : List Ent} {b o : Nat} {q : Nm} (hS : St w0 w (bag H D (⟨b, o, q⟩ :: l) :: T)) {b_x o_x : Nat} {x : Nm} {zx : Int} (mx : (⟨b_x, o_x, x⟩ : Ent) ∈ (⟨b, o, q⟩ : Ent) :: l) (hx : x.is zx) (lx : x.n ≤ 100000) :
    Calls Try.prog 118 #[.pointer (some ⟨b, o, none⟩), .pointer (some ⟨b_x, o_x, none⟩), .int .u64 64] w fun e w' => ∃ r : B1, r.q.is (zx * 18446744073709551616) ∧ e = .returned (.pointer (some ⟨b, o, none⟩)) ∧ St w0 w' (bag r.H r.D (⟨b, o, r.q⟩ :: l) :: T) := by
  have := lshB hS mx hx lx 64 (by decide)
  rw [show zx * 2 ^ 64 = zx * 18446744073709551616 from rfl] at this
  exact this

theorem lsh128 {w0 w : World} {T : List Res} {H D : List Nat} {l : List Ent} {b o : Nat} {q : Nm} (hS : St w0 w (bag H D (⟨b, o, q⟩ :: l) :: T)) {b_x o_x : Nat} {x : Nm} {zx : Int} (mx : (⟨b_x, o_x, x⟩ : Ent) ∈ (⟨b, o, q⟩ : Ent) :: l) (hx : x.is zx) (lx : x.n ≤ 100000) :
    Calls Try.prog 118 #[.pointer (some ⟨b, o, none⟩), .pointer (some ⟨b_x, o_x, none⟩), .int .u64 128] w fun e w' => ∃ r : B1, r.q.is (zx * 340282366920938463463374607431768211456) ∧ e = .returned (.pointer (some ⟨b, o, none⟩)) ∧ St w0 w' (bag r.H r.D (⟨b, o, r.q⟩ :: l) :: T) := by
  have := lshB hS mx hx lx 128 (by decide)
  rw [show zx * 2 ^ 128 = zx * 340282366920938463463374607431768211456 from rfl] at this
  exact this

theorem rsh64 {w0 w : World} {T : List Res} {H D : List Nat} {l : List Ent} {b o : Nat} {q : Nm} (hS : St w0 w (bag H D (⟨b, o, q⟩ :: l) :: T)) {b_x o_x : Nat} {x : Nm} {zx : Int} (mx : (⟨b_x, o_x, x⟩ : Ent) ∈ (⟨b, o, q⟩ : Ent) :: l) (hx : x.is zx) (lx : x.n ≤ 100000) (h0 : 0 ≤ zx) :
    Calls Try.prog 123 #[.pointer (some ⟨b, o, none⟩), .pointer (some ⟨b_x, o_x, none⟩), .int .u64 64] w fun e w' => ∃ r : B1, r.q.is (zx / 18446744073709551616) ∧ e = .returned (.pointer (some ⟨b, o, none⟩)) ∧ St w0 w' (bag r.H r.D (⟨b, o, r.q⟩ :: l) :: T) := by
  have := rshB hS mx hx lx 64 (by decide) h0
  rw [show zx / 2 ^ 64 = zx / 18446744073709551616 from rfl] at this
  exact this

set_option maxRecDepth 100000 in
set_option maxHeartbeats 2000000 in
theorem abigE {w0 w : World} {T : List Res} {H D : List Nat} {l : List Ent} (hS : St w0 w (bag H D l :: T)) {u v : Int} (ha : WB u v) :
    Calls Try.prog 37 #[.agg #[.int .u64 u, .int .u64 v]] w fun e w' => ∃ r : BN, r.q.is (u * 18446744073709551616 + v) ∧ e = .returned (.pointer (some ⟨r.b, 0, none⟩)) ∧ St w0 w' (bag r.H r.D (⟨r.b, 0, r.q⟩ :: l) :: T) := by
  obtain ⟨a0, a1, a2, a3⟩ := ha
  refine calls_tr Try.func37 Try.ntmps37 rfl rfl hS ?_
  refine tr_seq ?_
  refine tr_region ?_
  refine tl_step rfl (oj_box (fe_t rfl) (fun b1 => ?_))
  refine tl_step rfl (oj_val (y_assign fe_c) ?_)
  refine tl_nil ?_
  refine tx_then ?_
  refine tr_seq ?_
  refine tr_region ?_
  refine tl_step rfl (oj_allocN 1 Try.zeroValue35 rfl (fun b_n H_n => ?_))
  refine tl_step rfl (oj_val (y_fieldAddr (td := 41) Try.underlying54 rfl rfl Try.sizeOf41 (o' := 0) rfl (fe_t rfl)) ?_)
  refine tl_step rfl (oj_val (y_ldb 0 Try.isAgg41 (fe_t rfl) rfl rfl) ?_)
  refine tl_step rfl (oj_call2 Try.call116 fe_f (fel_cons (fe_t rfl) (fel_cons (fe_t rfl) fel_nil)) (fun w' hS => lift1 (p := fun n_ => n_.is (u)) 1 0 hS rfl rfl (fun T l' hm hS => setuB hS u a0 (by omega))) (fun r1 hr1 => ?_))
  refine tl_step rfl (oj_val (y_assign (fe_t rfl)) ?_)
  refine tl_nil ?_
  refine tx_then ?_
  refine tr_seq ?_
  refine tb_draw 99 (sel _ [0]) (fun w h => h.sel _ rfl (by decide)) rfl ?_
  refine tb_float (i := 0) rfl (by kernel_rfl) rfl (wants_none rfl) (yq_of (y_move (fe_t rfl))) ?_
  refine tb_float (i := 1) rfl (by kernel_rfl) rfl (wants_none rfl) (yq_of (y_move (fe_t rfl))) ?_
  refine tb_float (i := 2) rfl (by kernel_rfl) rfl (wants_none rfl) (yq_of (y_move (fe_t rfl))) ?_
  refine tb_float (i := 5) rfl (by kernel_rfl) rfl (wants_none rfl) (yq_of (y_fieldAddr (td := 41) Try.underlying54 rfl rfl Try.sizeOf41 (o' := 1) rfl (fe_t rfl))) ?_
  refine tb_float (i := 6) rfl (by kernel_rfl) rfl (wants_none rfl) (yq_of (y_ldb 0 Try.isAgg41 (fe_t rfl) rfl rfl)) ?_
  refine tb_two2 (i := 3) (j := 4) rfl rfl (by kernel_rfl) (by kernel_rfl) (by kernel_rfl) (wants_none rfl) (wants_none rfl) ?_ ?_
  · refine oj_call2 Try.call118 fe_f (fel_cons (fe_t rfl) (fel_cons (fe_t rfl) (fel_cons fe_c fel_nil))) (fun w' hS => lift1 (p := fun n_ => n_.is ((u) * 18446744073709551616)) 1 0 hS rfl rfl (fun T l' hm hS => lsh64 hS (hm _ (pget_mem 0 rfl)) hr1 (Nat.le_trans (nm_sm hr1 (sm_of (by omega) (by omega))) (by decide)))) (fun r2 hr2 => ⟨fun w h => h.pick [0] _ rfl (by decide), ?_⟩)
    refine tb_one2 (i := 4) rfl (by kernel_rfl) (by kernel_rfl) (wants_none rfl) (oj_allocN 1 Try.zeroValue35 rfl (fun b_m H_m => ⟨fun w h => h.pick [0] _ rfl (by decide), ?_⟩))
    refine tb_one2 (i := 7) rfl (by kernel_rfl) (by kernel_rfl) (wants_none rfl) (oj_call2 Try.call116 fe_f (fel_cons (fe_t rfl) (fel_cons (fe_t rfl) fel_nil)) (fun w' hS => lift1 (p := fun n_ => n_.is (v)) 1 0 hS rfl rfl (fun T l' hm hS => setuB hS v a2 (by omega))) (fun r3 hr3 => ⟨fun w h => h.pick [0] _ rfl (by decide), ?_⟩))
    refine tb_one2 (i := 8) rfl (by kernel_rfl) (by kernel_rfl) (wants_none rfl) (oj_call2 Try.call41 fe_f (fel_cons (fe_t rfl) (fel_cons (fe_t rfl) (fel_cons (fe_t rfl) fel_nil))) (fun w' hS => lift1 (p := fun n_ => n_.is (((u) * 18446744073709551616) + v)) 1 1 hS rfl rfl (fun T l' hm hS => addB hS (hm _ (pget_mem 1 rfl)) (hm _ (pget_mem 0 rfl)) hr2 hr3 (sm_of (by omega) (by omega)) (sm_of (by omega) (by omega)))) (fun r4 hr4 => ⟨fun w h => h.pick [0] _ rfl (by decide), ?_⟩))
    refine tb_float (i := 9) rfl (by kernel_rfl) rfl (wants_none rfl) (yq_of (y_assign (fe_t rfl))) ?_
    refine tb_done (by kernel_rfl) ?_
    refine tx_then ?_
    refine tr_ret ?_
    refine tx_ret (res1 Try.results37 (rok_t rfl)) (fun w' hS => ?_)
    have hS := St.bagpick (es := [_, _]) 1 hS rfl [1] rfl (by decide)
    have hS := pickT (l := [_, _]) hS [1] rfl (by decide)
    have hS' : St w0 w' (bag _ _ ((⟨b_n, 0, _⟩ : Ent) :: l) :: T) := hS
    exact finN hS' hr4
  · refine oj_allocN 1 Try.zeroValue35 rfl (fun b_m H_m => ⟨fun w h => h.pick [0] _ rfl (by decide), ?_⟩)
    refine tb_one2 (i := 3) rfl (by kernel_rfl) (by kernel_rfl) (wants_none rfl) (oj_call2 Try.call118 fe_f (fel_cons (fe_t rfl) (fel_cons (fe_t rfl) (fel_cons fe_c fel_nil))) (fun w' hS => lift1 (p := fun n_ => n_.is ((u) * 18446744073709551616)) 1 1 hS rfl rfl (fun T l' hm hS => lsh64 hS (hm _ (pget_mem 1 rfl)) hr1 (Nat.le_trans (nm_sm hr1 (sm_of (by omega) (by omega))) (by decide)))) (fun r5 hr5 => ⟨fun w h => h.pick [0] _ rfl (by decide), ?_⟩))
    refine tb_one2 (i := 7) rfl (by kernel_rfl) (by kernel_rfl) (wants_none rfl) (oj_call2 Try.call116 fe_f (fel_cons (fe_t rfl) (fel_cons (fe_t rfl) fel_nil)) (fun w' hS => lift1 (p := fun n_ => n_.is (v)) 1 0 hS rfl rfl (fun T l' hm hS => setuB hS v a2 (by omega))) (fun r6 hr6 => ⟨fun w h => h.pick [0] _ rfl (by decide), ?_⟩))
    refine tb_one2 (i := 8) rfl (by kernel_rfl) (by kernel_rfl) (wants_none rfl) (oj_call2 Try.call41 fe_f (fel_cons (fe_t rfl) (fel_cons (fe_t rfl) (fel_cons (fe_t rfl) fel_nil))) (fun w' hS => lift1 (p := fun n_ => n_.is (((u) * 18446744073709551616) + v)) 1 1 hS rfl rfl (fun T l' hm hS => addB hS (hm _ (pget_mem 1 rfl)) (hm _ (pget_mem 0 rfl)) hr5 hr6 (sm_of (by omega) (by omega)) (sm_of (by omega) (by omega)))) (fun r7 hr7 => ⟨fun w h => h.pick [0] _ rfl (by decide), ?_⟩))
    refine tb_float (i := 9) rfl (by kernel_rfl) rfl (wants_none rfl) (yq_of (y_assign (fe_t rfl))) ?_
    refine tb_done (by kernel_rfl) ?_
    refine tx_then ?_
    refine tr_ret ?_
    refine tx_ret (res1 Try.results37 (rok_t rfl)) (fun w' hS => ?_)
    have hS := St.bagpick (es := [_, _]) 1 hS rfl [1] rfl (by decide)
    have hS := pickT (l := [_, _]) hS [1] rfl (by decide)
    have hS' : St w0 w' (bag _ _ ((⟨b_n, 0, _⟩ : Ent) :: l) :: T) := hS
    exact finN hS' hr7

end Go.Proofs.Ytcpdelkamckmfaa.Frac
