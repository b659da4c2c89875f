/- the closure first. -/
import Derived.Test.YtcpdelkamckmfaaWqR
import Derived.Test.YtcpdelkamckmfaaWqA
namespace Go.Proofs.Ytcpdelkamckmfaa.Wfq
open Go.RowKit Go.Proofs.Ytcpdelkamckmfaa.E Go.Proofs.Ytcpdelkamckmfaa.Scfq Go.Proofs.Ytcpdelkamckmfaa.Big Go.Proofs.Ytcpdelkamckmfaa.Frac

set_option maxRecDepth 100000 in
set_option maxHeartbeats 4000000 in
theorem firstE {w0 w : World} {T : List Res} {bf bs bw g : Nat} {A : Option Addr} {n c : Nat} {ws : List Int} {l : List Rf} {fs : List Q} {H D : List Nat} {es : List Ent} (hS : St w0 w (blk bf [.slice (some ⟨g, 0, none⟩) n n] :: blk bs [(.int .i64 (sumw ws))] :: blk bw [.slice A n c] :: vec 182 3 (.slice (some ⟨g, 0, none⟩) n n) n (l.flatMap cR) :: subs 3 1 (l.map Rf.bV) :: bag H D es :: T)) (hr : Rd w0 A (ws.map (.int .i64))) (hn : ws.length = n) (hll : l.length = n) (hfl : fs.length = n) (hrel : Rel es n l fs)
    {k : Nat} {pf : Nat} {xa xb : Nm} {fr : Int} (hk : k < n) (mxa : (⟨pf, 0, xa⟩ : Ent) ∈ es) (mxb : (⟨pf, 2, xb⟩ : Ent) ∈ es) (hx : RatIs xa xb (mkRat fr 27720)) (hfr : 0 ≤ fr ∧ fr ≤ 4000000000000) (h0 : 0 < (gq fs k).bs.length) (hb : 1 ≤ hd (gq fs k).bs ∧ hd (gq fs k).bs ≤ 1500) (hwk : 1 ≤ ws.getD k 0 ∧ ws.getD k 0 ≤ 12) (hsm : 0 ≤ sumw ws ∧ sumw ws ≤ 192) :
    Calls Try.prog 141 #[(.int .i64 ((k : Int))), .pointer (some ⟨pf, 0, none⟩), .pointer (some ⟨bf, 0, none⟩), .pointer (some ⟨bs, 0, none⟩), .pointer (some ⟨bw, 0, none⟩)] w fun e w' => ∃ q : List Rf × List Nat × List Nat × List Ent, (q.1.length = n ∧ Ext es q.2.2.2 ∧ Rel q.2.2.2 n q.1 (fs.set k ⟨(gq fs k).bs, fr, fr + hd (gq fs k).bs * cost ws k⟩)) ∧ e = .returned (.tuple #[]) ∧ St w0 w' (blk bf [.slice (some ⟨g, 0, none⟩) n n] :: blk bs [(.int .i64 (sumw ws))] :: blk bw [.slice A n c] :: vec 182 3 (.slice (some ⟨g, 0, none⟩) n n) n (q.1.flatMap cR) :: subs 3 1 (q.1.map Rf.bV) :: bag q.2.1 q.2.2.1 q.2.2.2 :: T) := by
  refine calls_tr Try.func141 Try.ntmps141 rfl rfl hS ?_
  refine tr_seq ?_
  refine tr_region ?_
  refine tl_step rfl (oj_val (y_ldb 0 Try.isAgg180 (fe_t rfl) rfl rfl) ?_)
  refine tl_step rfl (oj_val (y_move (fe_t rfl)) ?_)
  refine tl_step rfl (oj_val (y_index Try.underlying180 Try.sizeOf182 (fe_t rfl) (fe_t rfl) (rdl_vec 3 rfl) (by rw [flat_len hcR]; omega) (by decide) (by omega) rfl) ?_)
  refine tl_step rfl (oj_val (y_assign (fe_t rfl)) ?_)
  refine tl_nil ?_
  refine tx_then ?_
  refine tr_seq ?_
  refine tr_region ?_
  refine tl_step rfl (oj_val (y_move (fe_t rfl)) ?_)
  refine tl_step rfl (oj_val (y_move (fe_t rfl)) ?_)
  refine tl_step rfl (oj_val (y_nilCheckE (fe_t rfl) (rdl_vec 3 rfl) (by rw [flat_len hcR]; omega)) ?_)
  refine tl_step rfl (oj_val (y_fieldAddrE (td := 30) Try.underlying182 rfl rfl Try.sizeOf30 rfl (fe_t rfl) (rdl_vec 3 rfl) (by rw [flat_len hcR]; omega)) ?_)
  refine tl_step rfl (oj_storeG (i := 3) Rf.nil (⟨(l.getD k Rf.nil).A1, (l.getD k Rf.nil).c1, (l.getD k Rf.nil).bs, pf, (l.getD k Rf.nil).pe⟩ : Rf) hcR Try.sizeOf30 (fe_t rfl) (fe_t rfl) rfl rfl rfl (by (try rw [List.length_set]); omega) rfl (rfl) (?_))
  refine tl_nil ?_
  refine tx_then ?_
  generalize hl1 : l.set k (⟨(l.getD k Rf.nil).A1, (l.getD k Rf.nil).c1, (l.getD k Rf.nil).bs, pf, (l.getD k Rf.nil).pe⟩ : Rf) = l1
  have hl1n : l1.length = n := by rw [← hl1, List.length_set]; exact hll
  have hl1k : l1.getD k Rf.nil = (⟨(l.getD k Rf.nil).A1, (l.getD k Rf.nil).c1, (l.getD k Rf.nil).bs, pf, (l.getD k Rf.nil).pe⟩ : Rf) := by rw [← hl1, getD_set (by omega), if_pos rfl]
  refine tr_as (r' := subs 3 1 (l1.map Rf.bV)) 4 rfl (congrArg (subs _ _) (by rw [← hl1]; exact (map_set_same (d := Rf.nil) Rf.bV (by rfl)).symm)) ?_
  have hbs1 : (l1.getD k Rf.nil).bs = (gq fs k).bs := by rw [hl1k]; exact (hrel k hk).bs
  have h0b : 0 < (l1.getD k Rf.nil).bs.length := by rw [hbs1]; exact h0
  have hdb : 1 ≤ hd (l1.getD k Rf.nil).bs ∧ hd (l1.getD k Rf.nil).bs ≤ 1500 := by rw [hbs1]; exact hb
  have hp1 := mul_in (show 0 ≤ hd (l1.getD k Rf.nil).bs by omega) hdb.2 (show 0 ≤ sumw ws by omega) hsm.2
  obtain ⟨⟨f1, f2⟩, f3, f4⟩ := time_bd hfr
  obtain ⟨k1, k2⟩ := mk_bd (n := hd (l1.getD k Rf.nil).bs * sumw ws) (d := ws.getD k 0) (by omega)
  have k3 := (mkRat (hd (l1.getD k Rf.nil).bs * sumw ws) (ws.getD k 0).toNat).den_pos
  have k4 := prod_bd (a := (mkRat (hd (l1.getD k Rf.nil).bs * sumw ws) (ws.getD k 0).toNat).num) (b := ((mkRat fr 27720).den : Int)) (A := 288000) (B := 27720) (by omega) (by omega) (by omega) (by omega)
  have k5 := mul_in f1 f2 (show (0 : Int) ≤ ((mkRat (hd (l1.getD k Rf.nil).bs * sumw ws) (ws.getD k 0).toNat).den : Int) by omega) (show _ ≤ (12 : Int) by omega)
  have k6 := mul_in (show (0 : Int) ≤ ((mkRat fr 27720).den : Int) by omega) f4 (show (0 : Int) ≤ ((mkRat (hd (l1.getD k Rf.nil).bs * sumw ws) (ws.getD k 0).toNat).den : Int) by omega) (show _ ≤ (12 : Int) by omega)
  refine tb_draw1 19 [_, _, _, _, _] [_, _, _, _, _] (fun w h => h.pick [0, 1, 2, 3, 4] _ rfl (by decide)) (fun w h => (h.weak (i := 3) rfl).pick [3, 0, 1, 2, 4] _ rfl (by decide)) rfl ?_
  refine tb_float (i := 0) rfl (by kernel_rfl) rfl (wants_none rfl) (yq_of (y_move (fe_t rfl))) ?_
  refine tb_float (i := 2) rfl (by kernel_rfl) rfl (wants_none rfl) (yq_of (y_move (fe_t rfl))) ?_
  refine tb_float (i := 3) rfl (by kernel_rfl) rfl (wants_none rfl) (yq_of (y_move (fe_t rfl))) ?_
  refine tb_float (i := 4) rfl (by kernel_rfl) rfl (wants_none rfl) (yq_of (y_nilCheckR (fe_t rfl) (rch_w 0 rfl (by omega)))) ?_
  refine tb_float (i := 5) rfl (by kernel_rfl) rfl (wants_none rfl) (yq_of (y_fieldAddrR (td := 79) Try.underlying182 rfl rfl Try.sizeOf79 rfl (fe_t rfl) (rch_w 0 rfl (by omega)))) ?_
  refine tb_float1 (i := 6) rfl (by kernel_rfl) (by kernel_rfl) rfl (wants_none rfl) (yq_of (y_ld Try.isAgg79 (fe_t rfl) (rdl_vec 3 rfl) (flatG (d := Rf.nil) (i := 0) hcR (by omega) rfl))) ?_
  refine tb_float (i := 7) rfl (by kernel_rfl) rfl (wants_none rfl) (yq_of (y_indexI (m := 0) Try.underlying79 Try.sizeOf3 (fe_t rfl) fe_c (subG (f := Rf.bV) (d := Rf.nil) 4 rfl (by omega)) (by simp [Rf.bV, cI]) (by decide) (by decide) (by omega) rfl)) ?_
  refine tb_float (i := 8) rfl (by kernel_rfl) rfl (wants_none rfl) (yq_of (y_ld Try.isAgg3 (fe_t rfl) (subG (f := Rf.bV) (d := Rf.nil) 4 rfl (by omega)) (hdI (by omega)))) ?_
  refine tb_float (i := 9) rfl (by kernel_rfl) rfl (wants_none rfl) (yq_of (y_ldb 2 Try.isAgg3 (fe_t rfl) rfl rfl)) ?_
  refine tb_float (i := 10) rfl (by kernel_rfl) rfl (wants_none rfl) (yq_of (y_mul (fe_t rfl) (fe_t rfl) (by omega))) ?_
  refine tb_float (i := 11) rfl (by kernel_rfl) rfl (wants_none rfl) (yq_of (y_ldb 3 Try.isAgg79 (fe_t rfl) rfl rfl)) ?_
  refine tb_float (i := 12) rfl (by kernel_rfl) rfl (wants_none rfl) (yq_of (y_move (fe_t rfl))) ?_
  refine tb_float (i := 13) rfl (by kernel_rfl) rfl (wants_none rfl) (yq_of (y_index Try.underlying79 Try.sizeOf3 (fe_t rfl) (fe_t rfl) (rdl_out hr) (by simp; omega) (by decide) (by omega) (Nat.mul_one _))) ?_
  refine tb_float (i := 14) rfl (by kernel_rfl) rfl (wants_none rfl) (yq_of (y_ld Try.isAgg3 (fe_t rfl) (rdl_out hr) (getW (by omega)))) ?_
  refine tb_two1 (i := 1) (j := 15) rfl rfl (by kernel_rfl) (by kernel_rfl) (by kernel_rfl) (wants_none rfl) (wants_none rfl) ?_ ?_
  · refine (oj_allocR 5 Try.zeroValue37 rfl (fun b_r1 H_r1 => ⟨fun w h => h.pick [0, 1, 2, 3, 4] _ rfl (by decide), ?_⟩))
    refine tb_one1 (i := 15) rfl (by kernel_rfl) (by kernel_rfl) (wants_none rfl) (oj_call2 Try.call83 fe_f (fel_cons (fe_t rfl) (fel_cons (fe_t rfl) fel_nil)) (fun w' hS => lift 5 hS rfl (fun T hS => newR hS (hd (l1.getD k Rf.nil).bs * sumw ws) (ws.getD k 0) (by omega) (by omega) (by omega) (by omega))) (fun r1 hr1 => ⟨fun w h => h.pick [0, 1, 2, 3, 4] _ rfl (by decide), ?_⟩))
    refine tb_one1 (i := 16) rfl (by kernel_rfl) (by kernel_rfl) (wants_none rfl) (oj_call2 Try.call22 fe_f (fel_cons (fe_t rfl) (fel_cons (fe_t rfl) (fel_cons (fe_t rfl) fel_nil))) (fun w' hS => lift2 (p := fun m_ n_ => RatIs m_ n_ (mkRat fr 27720 + mkRat (hd (l1.getD k Rf.nil).bs * sumw ws) (ws.getD k 0).toNat)) 5 2 3 hS rfl rfl rfl rfl (fun T l' hm hS => addR hS (hm _ (List.mem_cons_of_mem _ (List.mem_cons_of_mem _ (List.mem_cons_of_mem _ (List.mem_cons_of_mem _ mxa))))) (hm _ (List.mem_cons_of_mem _ (List.mem_cons_of_mem _ (List.mem_cons_of_mem _ (List.mem_cons_of_mem _ mxb))))) (hm _ (pget_mem 0 rfl)) (hm _ (pget_mem 1 rfl)) hx hr1 (by omega) (by omega) (by omega) (by omega) (by omega))) (fun r2 hr2 => ⟨fun w h => h.pick [0, 1, 2, 3, 4] _ rfl (by decide), ?_⟩))
    refine tb_float (i := 17) rfl (by kernel_rfl) rfl (wants_none rfl) (yq_of (y_nilCheckR (fe_t rfl) (rch_w 0 rfl (by omega)))) ?_
    refine tb_float (i := 18) rfl (by kernel_rfl) rfl (wants_none rfl) (yq_of (y_fieldAddrR (td := 30) Try.underlying182 rfl rfl Try.sizeOf30 rfl (fe_t rfl) (rch_w 0 rfl (by omega)))) ?_
    refine tb_one2 (i := 19) rfl (by kernel_rfl) (by kernel_rfl) (wants_none rfl) (oj_storeG (i := 3) Rf.nil (⟨(l1.getD k Rf.nil).A1, (l1.getD k Rf.nil).c1, (l1.getD k Rf.nil).bs, (l1.getD k Rf.nil).pb, b_r1⟩ : Rf) hcR Try.sizeOf30 (fe_t rfl) (fe_t rfl) rfl rfl rfl (by (try rw [List.length_set]); omega) rfl (rfl) (⟨fun w h => (h.weak (i := 3) rfl).pick [3, 0, 1, 2, 4] _ rfl (by decide), ?_⟩))
    refine tb_done (by kernel_rfl) ?_
    refine tx_end (res0 Try.results141 ) (fun w' hS => ?_)
    have h1 := pickT (l := [_, _, _, _, _, _]) hS [0, 1, 2, 3, 4, 5] rfl (by decide)
    have h2 : St w0 w' (blk bf [.slice (some ⟨g, 0, none⟩) n n] :: blk bs [(.int .i64 (sumw ws))] :: blk bw [.slice A n c] :: vec 182 3 (.slice (some ⟨g, 0, none⟩) n n) n ((l1.set k (⟨(l1.getD k Rf.nil).A1, (l1.getD k Rf.nil).c1, (l1.getD k Rf.nil).bs, (l1.getD k Rf.nil).pb, b_r1⟩ : Rf)).flatMap cR) :: subs 3 1 (l1.map Rf.bV) :: _ :: T) := h1
    rw [show l1.map Rf.bV = (l1.set k (⟨(l1.getD k Rf.nil).A1, (l1.getD k Rf.nil).c1, (l1.getD k Rf.nil).bs, (l1.getD k Rf.nil).pb, b_r1⟩ : Rf)).map Rf.bV from (map_set_same (d := Rf.nil) Rf.bV (by rfl)).symm] at h2
    refine ⟨(l1.set k (⟨(l1.getD k Rf.nil).A1, (l1.getD k Rf.nil).c1, (l1.getD k Rf.nil).bs, (l1.getD k Rf.nil).pb, b_r1⟩ : Rf), _, _, _), ⟨by rw [List.length_set]; exact hl1n, ?_, ?_⟩, rfl, h2⟩
    · exact .cons _ (.cons _ (.cons _ (.cons _ (Ext.rfl))))
    · dsimp only
      have hss : ∀ x, l1.set k x = l.set k x := fun x => by rw [← hl1, List.set_set]
      rw [hss]
      refine (hrel.mono ?_).set hll hfl hk ⟨by rw [hbs1], ⟨_, _, ?_, ?_, hx⟩, ⟨_, _, pget_mem 2 rfl, pget_mem 3 rfl, ?_⟩⟩
      · exact .cons _ (.cons _ (.cons _ (.cons _ (Ext.rfl))))
      · rw [hl1k]; exact (List.mem_cons_of_mem _ (List.mem_cons_of_mem _ (List.mem_cons_of_mem _ (List.mem_cons_of_mem _ mxa))))
      · rw [hl1k]; exact (List.mem_cons_of_mem _ (List.mem_cons_of_mem _ (List.mem_cons_of_mem _ (List.mem_cons_of_mem _ mxb))))
      · rw [← hbs1]; exact (mk_plus hwk) ▸ hr2
  · refine (oj_call2 Try.call83 fe_f (fel_cons (fe_t rfl) (fel_cons (fe_t rfl) fel_nil)) (fun w' hS => lift 5 hS rfl (fun T hS => newR hS (hd (l1.getD k Rf.nil).bs * sumw ws) (ws.getD k 0) (by omega) (by omega) (by omega) (by omega))) (fun r3 hr3 => ⟨fun w h => h.pick [0, 1, 2, 3, 4] _ rfl (by decide), ?_⟩))
    refine tb_one1 (i := 1) rfl (by kernel_rfl) (by kernel_rfl) (wants_none rfl) (oj_allocR 5 Try.zeroValue37 rfl (fun b_r4 H_r4 => ⟨fun w h => h.pick [0, 1, 2, 3, 4] _ rfl (by decide), ?_⟩))
    refine tb_one1 (i := 16) rfl (by kernel_rfl) (by kernel_rfl) (wants_none rfl) (oj_call2 Try.call22 fe_f (fel_cons (fe_t rfl) (fel_cons (fe_t rfl) (fel_cons (fe_t rfl) fel_nil))) (fun w' hS => lift2 (p := fun m_ n_ => RatIs m_ n_ (mkRat fr 27720 + mkRat (hd (l1.getD k Rf.nil).bs * sumw ws) (ws.getD k 0).toNat)) 5 0 1 hS rfl rfl rfl rfl (fun T l' hm hS => addR hS (hm _ (List.mem_cons_of_mem _ (List.mem_cons_of_mem _ (List.mem_cons_of_mem _ (List.mem_cons_of_mem _ mxa))))) (hm _ (List.mem_cons_of_mem _ (List.mem_cons_of_mem _ (List.mem_cons_of_mem _ (List.mem_cons_of_mem _ mxb))))) (hm _ (pget_mem 2 rfl)) (hm _ (pget_mem 3 rfl)) hx hr3 (by omega) (by omega) (by omega) (by omega) (by omega))) (fun r4 hr4 => ⟨fun w h => h.pick [0, 1, 2, 3, 4] _ rfl (by decide), ?_⟩))
    refine tb_float (i := 17) rfl (by kernel_rfl) rfl (wants_none rfl) (yq_of (y_nilCheckR (fe_t rfl) (rch_w 0 rfl (by omega)))) ?_
    refine tb_float (i := 18) rfl (by kernel_rfl) rfl (wants_none rfl) (yq_of (y_fieldAddrR (td := 30) Try.underlying182 rfl rfl Try.sizeOf30 rfl (fe_t rfl) (rch_w 0 rfl (by omega)))) ?_
    refine tb_one2 (i := 19) rfl (by kernel_rfl) (by kernel_rfl) (wants_none rfl) (oj_storeG (i := 3) Rf.nil (⟨(l1.getD k Rf.nil).A1, (l1.getD k Rf.nil).c1, (l1.getD k Rf.nil).bs, (l1.getD k Rf.nil).pb, b_r4⟩ : Rf) hcR Try.sizeOf30 (fe_t rfl) (fe_t rfl) rfl rfl rfl (by (try rw [List.length_set]); omega) rfl (rfl) (⟨fun w h => (h.weak (i := 3) rfl).pick [3, 0, 1, 2, 4] _ rfl (by decide), ?_⟩))
    refine tb_done (by kernel_rfl) ?_
    refine tx_end (res0 Try.results141 ) (fun w' hS => ?_)
    have h1 := pickT (l := [_, _, _, _, _, _]) hS [0, 1, 2, 3, 4, 5] rfl (by decide)
    have h2 : St w0 w' (blk bf [.slice (some ⟨g, 0, none⟩) n n] :: blk bs [(.int .i64 (sumw ws))] :: blk bw [.slice A n c] :: vec 182 3 (.slice (some ⟨g, 0, none⟩) n n) n ((l1.set k (⟨(l1.getD k Rf.nil).A1, (l1.getD k Rf.nil).c1, (l1.getD k Rf.nil).bs, (l1.getD k Rf.nil).pb, b_r4⟩ : Rf)).flatMap cR) :: subs 3 1 (l1.map Rf.bV) :: _ :: T) := h1
    rw [show l1.map Rf.bV = (l1.set k (⟨(l1.getD k Rf.nil).A1, (l1.getD k Rf.nil).c1, (l1.getD k Rf.nil).bs, (l1.getD k Rf.nil).pb, b_r4⟩ : Rf)).map Rf.bV from (map_set_same (d := Rf.nil) Rf.bV (by rfl)).symm] at h2
    refine ⟨(l1.set k (⟨(l1.getD k Rf.nil).A1, (l1.getD k Rf.nil).c1, (l1.getD k Rf.nil).bs, (l1.getD k Rf.nil).pb, b_r4⟩ : Rf), _, _, _), ⟨by rw [List.length_set]; exact hl1n, ?_, ?_⟩, rfl, h2⟩
    · exact .cons _ (.cons _ (.cons _ (.cons _ (Ext.rfl))))
    · dsimp only
      have hss : ∀ x, l1.set k x = l.set k x := fun x => by rw [← hl1, List.set_set]
      rw [hss]
      refine (hrel.mono ?_).set hll hfl hk ⟨by rw [hbs1], ⟨_, _, ?_, ?_, hx⟩, ⟨_, _, pget_mem 0 rfl, pget_mem 1 rfl, ?_⟩⟩
      · exact .cons _ (.cons _ (.cons _ (.cons _ (Ext.rfl))))
      · rw [hl1k]; exact (List.mem_cons_of_mem _ (List.mem_cons_of_mem _ (List.mem_cons_of_mem _ (List.mem_cons_of_mem _ mxa))))
      · rw [hl1k]; exact (List.mem_cons_of_mem _ (List.mem_cons_of_mem _ (List.mem_cons_of_mem _ (List.mem_cons_of_mem _ mxb))))
      · rw [← hbs1]; exact (mk_plus hwk) ▸ hr4

theorem firstH {w0 w : World} {T : List Res} {bf bs bw g : Nat} {A : Option Addr} {n c : Nat} {ws : List Int} {l : List Rf} {fs : List Q} {H D : List Nat} {es : List Ent} (hS : St w0 w (blk bf [.slice (some ⟨g, 0, none⟩) n n] :: blk bs [(.int .i64 (sumw ws))] :: blk bw [.slice A n c] :: vec 182 3 (.slice (some ⟨g, 0, none⟩) n n) n (l.flatMap cR) :: subs 3 1 (l.map Rf.bV) :: bag H D es :: T)) (hr : Rd w0 A (ws.map (.int .i64))) (hn : ws.length = n) (hll : l.length = n) (hfl : fs.length = n) (hrel : Rel es n l fs)
    {k : Nat} {pf : Nat} {fr : Int} (hk : k < n) (hf : HoldR es pf fr) (hfr : 0 ≤ fr ∧ fr ≤ 4000000000000) (h0 : 0 < (gq fs k).bs.length) (hb : 1 ≤ hd (gq fs k).bs ∧ hd (gq fs k).bs ≤ 1500) (hwk : 1 ≤ ws.getD k 0 ∧ ws.getD k 0 ≤ 12) (hsm : 0 ≤ sumw ws ∧ sumw ws ≤ 192) :
    Calls Try.prog 141 #[(.int .i64 ((k : Int))), .pointer (some ⟨pf, 0, none⟩), .pointer (some ⟨bf, 0, none⟩), .pointer (some ⟨bs, 0, none⟩), .pointer (some ⟨bw, 0, none⟩)] w fun e w' => ∃ q : List Rf × List Nat × List Nat × List Ent, (q.1.length = n ∧ Ext es q.2.2.2 ∧ Rel q.2.2.2 n q.1 (fs.set k ⟨(gq fs k).bs, fr, fr + hd (gq fs k).bs * cost ws k⟩)) ∧ e = .returned (.tuple #[]) ∧ St w0 w' (blk bf [.slice (some ⟨g, 0, none⟩) n n] :: blk bs [(.int .i64 (sumw ws))] :: blk bw [.slice A n c] :: vec 182 3 (.slice (some ⟨g, 0, none⟩) n n) n (q.1.flatMap cR) :: subs 3 1 (q.1.map Rf.bV) :: bag q.2.1 q.2.2.1 q.2.2.2 :: T) := by
  obtain ⟨xa, xb, mxa, mxb, hx⟩ := hf
  exact firstE hS hr hn hll hfl hrel hk mxa mxb hx hfr h0 hb hwk hsm

end Go.Proofs.Ytcpdelkamckmfaa.Wfq
