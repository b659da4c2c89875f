/- the method head. -/
import Derived.Test.YtcpdelkamckmfaaWqA
namespace Go.Proofs.Ytcpdelkamckmfaa.Wfq
open Go.RowKit Go.Proofs.Ytcpdelkamckmfaa.E Go.Proofs.Ytcpdelkamckmfaa.Scfq

set_option maxRecDepth 100000 in
set_option maxHeartbeats 4000000 in
theorem headE {w0 w : World} {T : List Res} {b g : Nat} {A : Option Addr} {n c : Nat} {ws : List Int} {sm tm : Int} {l : List Fl} {fs : List Q} (hS : St w0 w (blk b [.slice A n c, .slice (some ⟨g, 0, none⟩) n n, (.int .i64 sm), (.int .i64 tm)] :: vec 179 3 (.slice (some ⟨g, 0, none⟩) n n) n (l.flatMap cF) :: subs 3 1 (l.map Fl.bV) :: T)) (hr : Rd w0 A (ws.map (.int .i64))) (hn : ws.length = n) (hll : l.length = n) (hq : l.map Fl.q = fs) {k : Nat} {fr : Int} (hk : k < n) (h0 : 0 < (gq fs k).bs.length) (hb : 1 ≤ hd (gq fs k).bs ∧ hd (gq fs k).bs ≤ 1500) (hwk : 1 ≤ ws.getD k 0 ∧ ws.getD k 0 ≤ 12) (hsm : 0 ≤ sm ∧ sm ≤ 192) (hfr : 0 ≤ fr ∧ fr ≤ 4000000000000) :
    Calls Try.prog 175 #[.pointer (some ⟨b, 0, none⟩), (.int .i64 ((k : Int))), (.int .i64 fr)] w fun e w' => ∃ q : List Fl, (q.length = n ∧ q.map Fl.q = fs.set k ⟨(gq fs k).bs, fr, fr + hd (gq fs k).bs * (27720 / ws.getD k 0) * sm⟩) ∧ e = .returned (.tuple #[]) ∧ St w0 w' (blk b [.slice A n c, .slice (some ⟨g, 0, none⟩) n n, (.int .i64 sm), (.int .i64 tm)] :: vec 179 3 (.slice (some ⟨g, 0, none⟩) n n) n (q.flatMap cF) :: subs 3 1 (q.map Fl.bV) :: T) := by
  rw [flq hq k] at h0 hb
  replace h0 : 0 < (l.getD k Fl.nil).bs.length := h0
  replace hb : 1 ≤ hd (l.getD k Fl.nil).bs ∧ hd (l.getD k Fl.nil).bs ≤ 1500 := hb
  refine calls_tr Try.func175 Try.ntmps175 rfl rfl hS ?_
  refine tr_seq ?_
  refine tr_region ?_
  refine tl_step rfl (oj_val (y_move (fe_t rfl)) ?_)
  refine tl_step rfl (oj_val (y_nilCheck (fe_t rfl)) ?_)
  refine tl_step rfl (oj_val (y_fieldAddr (td := 170) Try.underlying172 rfl rfl Try.sizeOf170 (o' := 1) rfl (fe_t rfl)) ?_)
  refine tl_step rfl (oj_val (y_ldb 0 Try.isAgg170 (fe_t rfl) rfl rfl) ?_)
  refine tl_step rfl (oj_val (y_move (fe_t rfl)) ?_)
  refine tl_step rfl (oj_val (y_index Try.underlying170 Try.sizeOf179 (fe_t rfl) (fe_t rfl) (rdl_vec 1 rfl) (by rw [flat_len hcF]; omega) (by decide) (by omega) rfl) ?_)
  refine tl_step rfl (oj_val (y_assign (fe_t rfl)) ?_)
  refine tl_nil ?_
  refine tx_then ?_
  refine tr_seq ?_
  refine tr_region ?_
  refine tl_step rfl (oj_val (y_move (fe_t rfl)) ?_)
  refine tl_step rfl (oj_val (y_move (fe_t rfl)) ?_)
  refine tl_step rfl (oj_val (y_nilCheckE (fe_t rfl) (rdl_vec 1 rfl) (by rw [flat_len hcF]; omega)) ?_)
  refine tl_step rfl (oj_val (y_fieldAddrE (td := 3) Try.underlying179 rfl rfl Try.sizeOf3 rfl (fe_t rfl) (rdl_vec 1 rfl) (by rw [flat_len hcF]; omega)) ?_)
  refine tl_step rfl (oj_storeG (i := 1) Fl.nil (⟨(l.getD k Fl.nil).A1, (l.getD k Fl.nil).c1, (l.getD k Fl.nil).bs, fr, (l.getD k Fl.nil).en⟩ : Fl) hcF Try.sizeOf3 (fe_t rfl) (fe_t rfl) rfl rfl rfl (by (try rw [List.length_set]); omega) rfl (rfl) (?_))
  refine tl_nil ?_
  refine tx_then ?_
  generalize hl1 : l.set k (⟨(l.getD k Fl.nil).A1, (l.getD k Fl.nil).c1, (l.getD k Fl.nil).bs, fr, (l.getD k Fl.nil).en⟩ : Fl) = l1
  have hl1n : l1.length = n := by rw [← hl1, List.length_set]; exact hll
  have hl1k : l1.getD k Fl.nil = (⟨(l.getD k Fl.nil).A1, (l.getD k Fl.nil).c1, (l.getD k Fl.nil).bs, fr, (l.getD k Fl.nil).en⟩ : Fl) := by rw [← hl1, getD_set (by omega), if_pos rfl]
  refine tr_as (r' := subs 3 1 (l1.map Fl.bV)) 2 rfl (congrArg (subs _ _) (by rw [← hl1]; exact (map_set_same (d := Fl.nil) Fl.bV (by rfl)).symm)) ?_
  have h0b : 0 < (l1.getD k Fl.nil).bs.length := by rw [hl1k]; exact h0
  have hdb : 1 ≤ hd (l1.getD k Fl.nil).bs ∧ hd (l1.getD k Fl.nil).bs ≤ 1500 := by rw [hl1k]; exact hb
  obtain ⟨q1, q2, _⟩ := w_quo hwk
  have hp1 : 1 * 0 ≤ hd (l1.getD k Fl.nil).bs * (27720 / ws.getD k 0) := Int.mul_le_mul (by omega) (by omega) (by omega) (by omega)
  have hp2 : hd (l1.getD k Fl.nil).bs * (27720 / ws.getD k 0) ≤ 1500 * 27720 := Int.mul_le_mul (by omega) q2 (by omega) (by omega)
  have hp3 : 0 ≤ hd (l1.getD k Fl.nil).bs * (27720 / ws.getD k 0) * sm := Int.mul_nonneg (by omega) (by omega)
  have hp4 : hd (l1.getD k Fl.nil).bs * (27720 / ws.getD k 0) * sm ≤ 41580000 * 192 := Int.mul_le_mul (by omega) hsm.2 (by omega) (by omega)
  refine tb_draw1 25 [_, _, _] [_, _, _] (fun w h => h.pick [0, 1, 2] _ rfl (by decide)) (fun w h => (h.weak (i := 1) rfl).pick [1, 0, 2] _ rfl (by decide)) rfl ?_
  refine tb_float (i := 0) rfl (by kernel_rfl) rfl (wants_none rfl) (yq_of (y_move (fe_t rfl))) ?_
  refine tb_float (i := 1) rfl (by kernel_rfl) rfl (wants_none rfl) (yq_of (y_move (fe_t rfl))) ?_
  refine tb_float (i := 2) rfl (by kernel_rfl) rfl (wants_none rfl) (yq_of (y_move (fe_t rfl))) ?_
  refine tb_float (i := 3) rfl (by kernel_rfl) rfl (wants_none rfl) (yq_of (y_nilCheckR (fe_t rfl) (rch_w 0 rfl (by omega)))) ?_
  refine tb_float (i := 4) rfl (by kernel_rfl) rfl (wants_none rfl) (yq_of (y_fieldAddrR (td := 79) Try.underlying179 rfl rfl Try.sizeOf79 rfl (fe_t rfl) (rch_w 0 rfl (by omega)))) ?_
  refine tb_float1 (i := 5) rfl (by kernel_rfl) (by kernel_rfl) rfl (wants_none rfl) (yq_of (y_ld Try.isAgg79 (fe_t rfl) (rdl_vec 1 rfl) (flatG (d := Fl.nil) (i := 0) hcF (by omega) rfl))) ?_
  refine tb_float (i := 6) rfl (by kernel_rfl) rfl (wants_none rfl) (yq_of (y_indexI (m := 0) Try.underlying79 Try.sizeOf3 (fe_t rfl) fe_c (subG (f := Fl.bV) (d := Fl.nil) 2 rfl (by omega)) (by simp [Fl.bV, cI]) (by decide) (by decide) (by omega) rfl)) ?_
  refine tb_float (i := 7) rfl (by kernel_rfl) rfl (wants_none rfl) (yq_of (y_ld Try.isAgg3 (fe_t rfl) (subG (f := Fl.bV) (d := Fl.nil) 2 rfl (by omega)) (hdI (by omega)))) ?_
  refine tb_float (i := 8) rfl (by kernel_rfl) rfl (wants_none rfl) (yq_of (y_move (fe_t rfl))) ?_
  refine tb_float (i := 9) rfl (by kernel_rfl) rfl (wants_none rfl) (yq_of (y_nilCheck (fe_t rfl))) ?_
  refine tb_float (i := 10) rfl (by kernel_rfl) rfl (wants_none rfl) (yq_of (y_fieldAddr (td := 79) Try.underlying172 rfl rfl Try.sizeOf79 (o' := 0) rfl (fe_t rfl))) ?_
  refine tb_float (i := 11) rfl (by kernel_rfl) rfl (wants_none rfl) (yq_of (y_ldb 1 Try.isAgg79 (fe_t rfl) rfl rfl)) ?_
  refine tb_float (i := 12) rfl (by kernel_rfl) rfl (wants_none rfl) (yq_of (y_move (fe_t rfl))) ?_
  refine tb_float (i := 13) rfl (by kernel_rfl) rfl (wants_none rfl) (yq_of (y_index Try.underlying79 Try.sizeOf3 (fe_t rfl) (fe_t rfl) (rdl_out hr) (by simp; omega) (by decide) (by omega) (Nat.mul_one _))) ?_
  refine tb_float (i := 14) rfl (by kernel_rfl) rfl (wants_none rfl) (yq_of (y_ld Try.isAgg3 (fe_t rfl) (rdl_out hr) (getW (by omega)))) ?_
  refine tb_float (i := 15) rfl (by kernel_rfl) rfl (wants_none rfl) (yq_of (y_quo fe_c (fe_t rfl) (by omega))) ?_
  refine tb_float (i := 16) rfl (by kernel_rfl) rfl (wants_none rfl) (yq_of (y_mul (fe_t rfl) (fe_t rfl) (by omega))) ?_
  refine tb_float (i := 17) rfl (by kernel_rfl) rfl (wants_none rfl) (yq_of (y_move (fe_t rfl))) ?_
  refine tb_float (i := 18) rfl (by kernel_rfl) rfl (wants_none rfl) (yq_of (y_nilCheck (fe_t rfl))) ?_
  refine tb_float (i := 19) rfl (by kernel_rfl) rfl (wants_none rfl) (yq_of (y_fieldAddr (td := 3) Try.underlying172 rfl rfl Try.sizeOf3 (o' := 2) rfl (fe_t rfl))) ?_
  refine tb_float (i := 20) rfl (by kernel_rfl) rfl (wants_none rfl) (yq_of (y_ldb 1 Try.isAgg3 (fe_t rfl) rfl rfl)) ?_
  refine tb_float (i := 21) rfl (by kernel_rfl) rfl (wants_none rfl) (yq_of (y_mul (fe_t rfl) (fe_t rfl) (by omega))) ?_
  refine tb_float (i := 22) rfl (by kernel_rfl) rfl (wants_none rfl) (yq_of (y_add (fe_t rfl) (fe_t rfl) (by omega))) ?_
  refine tb_float (i := 23) rfl (by kernel_rfl) rfl (wants_none rfl) (yq_of (y_nilCheckR (fe_t rfl) (rch_w 0 rfl (by omega)))) ?_
  refine tb_float (i := 24) rfl (by kernel_rfl) rfl (wants_none rfl) (yq_of (y_fieldAddrR (td := 3) Try.underlying179 rfl rfl Try.sizeOf3 rfl (fe_t rfl) (rch_w 0 rfl (by omega)))) ?_
  refine tb_one2 (i := 25) rfl (by kernel_rfl) (by kernel_rfl) (wants_none rfl) (oj_storeG (i := 1) Fl.nil (⟨(l1.getD k Fl.nil).A1, (l1.getD k Fl.nil).c1, (l1.getD k Fl.nil).bs, (l1.getD k Fl.nil).bg, fr + hd (l1.getD k Fl.nil).bs * (27720 / ws.getD k 0) * sm⟩ : Fl) hcF Try.sizeOf3 (fe_t rfl) (fe_t rfl) rfl rfl rfl (by (try rw [List.length_set]); omega) rfl (rfl) (⟨fun w h => (h.weak (i := 1) rfl).pick [1, 0, 2] _ rfl (by decide), ?_⟩))
  refine tb_done (by kernel_rfl) ?_
  refine tx_end (res0 Try.results175 ) (fun w' hS => ?_)
  have h1 := pickT (l := [_, _, _]) hS [0, 1, 2] rfl (by decide)
  have h2 : St w0 w' (blk b [.slice A n c, .slice (some ⟨g, 0, none⟩) n n, (.int .i64 sm), (.int .i64 tm)] :: vec 179 3 (.slice (some ⟨g, 0, none⟩) n n) n ((l1.set k (⟨(l1.getD k Fl.nil).A1, (l1.getD k Fl.nil).c1, (l1.getD k Fl.nil).bs, (l1.getD k Fl.nil).bg, fr + hd (l1.getD k Fl.nil).bs * (27720 / ws.getD k 0) * sm⟩ : Fl)).flatMap cF) :: subs 3 1 (l1.map Fl.bV) :: T) := h1
  rw [show l1.map Fl.bV = (l1.set k (⟨(l1.getD k Fl.nil).A1, (l1.getD k Fl.nil).c1, (l1.getD k Fl.nil).bs, (l1.getD k Fl.nil).bg, fr + hd (l1.getD k Fl.nil).bs * (27720 / ws.getD k 0) * sm⟩ : Fl)).map Fl.bV from (map_set_same (d := Fl.nil) Fl.bV (by rfl)).symm] at h2
  exact ⟨l1.set k (⟨(l1.getD k Fl.nil).A1, (l1.getD k Fl.nil).c1, (l1.getD k Fl.nil).bs, (l1.getD k Fl.nil).bg, fr + hd (l1.getD k Fl.nil).bs * (27720 / ws.getD k 0) * sm⟩ : Fl), ⟨by rw [List.length_set]; exact hl1n, by rw [List.map_set, hl1k, ← hl1, List.map_set, hq, List.set_set, flq hq k]; rfl⟩, rfl, h2⟩

end Go.Proofs.Ytcpdelkamckmfaa.Wfq
