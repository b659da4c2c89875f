/- the method in. -/
import Derived.Test.YtcpdelkamckmfaaWqH
namespace Go.Proofs.Ytcpdelkamckmfaa.Wfq
open Go.RowKit Go.Proofs.Ytcpdelkamckmfaa.E Go.Proofs.Ytcpdelkamckmfaa.Scfq

theorem hd_one {l : List Int} {b : Int} (h : l.length = 0) : hd (l ++ [b]) = b := by
  have : l = [] := List.eq_nil_of_length_eq_zero h
  subst this
  rfl
set_option maxRecDepth 100000 in
set_option maxHeartbeats 4000000 in
theorem inE {w0 w : World} {T : List Res} {b g : Nat} {A : Option Addr} {n c : Nat} {ws : List Int} {sm tm : Int} {l : List Fl} {fs : List Q} (hS : St w0 w (blk b [.slice A n c, .slice (some ⟨g, 0, none⟩) n n, (.int .i64 sm), (.int .i64 tm)] :: vec 179 3 (.slice (some ⟨g, 0, none⟩) n n) n (l.flatMap cF) :: subs 3 1 (l.map Fl.bV) :: T)) (hr : Rd w0 A (ws.map (.int .i64))) (hn : ws.length = n) (hll : l.length = n) (hq : l.map Fl.q = fs) {k : Nat} {bb : Int} (hk : k < n) (hbb : 1 ≤ bb ∧ bb ≤ 1500) (hcn : (gq fs k).bs.length ≤ 399) (hwk : 1 ≤ ws.getD k 0 ∧ ws.getD k 0 ≤ 12) (hsm : 0 ≤ sm ∧ sm ≤ 192) (hen : 0 ≤ (gq fs k).en ∧ (gq fs k).en ≤ 4000000000000) (htm : 0 ≤ tm ∧ tm ≤ 4000000000000) :
    Calls Try.prog 140 #[.pointer (some ⟨b, 0, none⟩), (.int .i64 ((k : Int))), (.int .i64 bb)] w fun e w' => ∃ q : List Fl, (q.length = n ∧ q.map Fl.q = fs.set k (inQ (27720 / ws.getD k 0 * sm) (gq fs k) bb tm)) ∧ e = .returned (.tuple #[]) ∧ St w0 w' (blk b [.slice A n c, .slice (some ⟨g, 0, none⟩) n n, (.int .i64 sm), (.int .i64 tm)] :: vec 179 3 (.slice (some ⟨g, 0, none⟩) n n) n (q.flatMap cF) :: subs 3 1 (q.map Fl.bV) :: T) := by
  have hcn2 : (l.getD k Fl.nil).bs.length ≤ 399 := by have h := hcn; rw [flq hq k] at h; exact h
  refine calls_tr Try.func140 Try.ntmps140 rfl rfl hS ?_
  refine tr_seq ?_
  refine tr_region ?_
  refine tl_step rfl (oj_val (y_move (fe_t rfl)) ?_)
  refine tl_step rfl (oj_val (y_nilCheck (fe_t rfl)) ?_)
  refine tl_step rfl (oj_val (y_fieldAddr (td := 170) Try.underlying172 rfl rfl Try.sizeOf170 (o' := 1) rfl (fe_t rfl)) ?_)
  refine tl_step rfl (oj_val (y_ldb 0 Try.isAgg170 (fe_t rfl) rfl rfl) ?_)
  refine tl_step rfl (oj_val (y_move (fe_t rfl)) ?_)
  refine tl_step rfl (oj_val (y_index Try.underlying170 Try.sizeOf179 (fe_t rfl) (fe_t rfl) (rdl_vec 1 rfl) (by rw [flat_len hcF]; omega) (by decide) (by omega) rfl) ?_)
  refine tl_step rfl (oj_val (y_assign (fe_t rfl)) ?_)
  refine tl_nil ?_
  refine tx_then ?_
  refine tr_seq ?_
  refine tr_subOut 2 k rfl (map_at (d := Fl.nil) Fl.bV (by omega)) ?_
  have hbn : (Fl.bV (l.getD k Fl.nil)).n ≤ 400 := by show (l.getD k Fl.nil).bs.length ≤ 400; omega
  refine tr_region ?_
  refine tl_step rfl (oj_val (y_move (fe_t rfl)) ?_)
  refine tl_step rfl (oj_val (y_move (fe_t rfl)) ?_)
  refine tl_step rfl (oj_val (y_nilCheckE (fe_t rfl) (rdl_vec 2 rfl) (by rw [flat_len hcF]; omega)) ?_)
  refine tl_step rfl (oj_val (y_fieldAddrE (td := 79) Try.underlying179 rfl rfl Try.sizeOf79 rfl (fe_t rfl) (rdl_vec 2 rfl) (by rw [flat_len hcF]; omega)) ?_)
  refine tl_step rfl (oj_val (y_ld Try.isAgg79 (fe_t rfl) (rdl_vec 2 rfl) (flatG (d := Fl.nil) (i := 0) hcF (by omega) rfl)) ?_)
  refine tl_step rfl (oj_val (y_move (fe_t rfl)) ?_)
  refine tl_step rfl (oj_slice1 Try.underlying79 Try.sizeOf3 Try.zeroValue3 (fe_t rfl) (by decide) rfl (fun b1 => ?_))
  refine tl_step rfl (oj_append (i := 1) (s := 1) (z := (.int .i64 0)) (bytes := 8) Try.underlying79 (by kernel_rfl) (fe_t rfl) (fe_t rfl) rfl (rdl_blk 0 rfl) rfl (by decide) (by first | exact oneI | exact oneF (fun _ => rfl) | exact fun u hu => List.all_eq_true.1 (show List.all _ (fun x => x.oneCell') = true from rfl) u hu | (intro u hu; revert u hu; simp [Value.oneCell'])) (by decide) ⟨by omega, by decide⟩ (fun Aa1 ca1 hca1 => ?_))
  refine tl_step rfl (oj_val (y_nilCheckE (fe_t rfl) (rdl_vec 3 rfl) (by rw [flat_len hcF]; omega)) ?_)
  refine tl_step rfl (oj_val (y_fieldAddrE (td := 79) Try.underlying179 rfl rfl Try.sizeOf79 rfl (fe_t rfl) (rdl_vec 3 rfl) (by rw [flat_len hcF]; omega)) ?_)
  refine tl_step rfl (oj_storeG (i := 3) Fl.nil (⟨Aa1, ca1, (l.getD k Fl.nil).bs ++ [bb], (l.getD k Fl.nil).bg, (l.getD k Fl.nil).en⟩ : Fl) hcF Try.sizeOf79 (fe_t rfl) (fe_t rfl) rfl rfl rfl (by (try rw [List.length_set]); omega) rfl (by simp [cF, Fl.bV]) (?_))
  refine tl_nil ?_
  refine tx_then ?_
  refine tr_seq ?_
  refine tr_subInJ 1 4 k rfl rfl rfl (map_nil_at Fl.bV (by omega)) (map_back (x := (⟨Aa1, ca1, (l.getD k Fl.nil).bs ++ [bb], (l.getD k Fl.nil).bg, (l.getD k Fl.nil).en⟩ : Fl)) Fl.bV (by simp [Fl.bV, cI, zc])) ?_
  generalize hl1 : l.set k (⟨Aa1, ca1, (l.getD k Fl.nil).bs ++ [bb], (l.getD k Fl.nil).bg, (l.getD k Fl.nil).en⟩ : Fl) = l1
  have hl1n : l1.length = n := by rw [← hl1, List.length_set]; exact hll
  have hl1k : l1.getD k Fl.nil = (⟨Aa1, ca1, (l.getD k Fl.nil).bs ++ [bb], (l.getD k Fl.nil).bg, (l.getD k Fl.nil).en⟩ : Fl) := by rw [← hl1, getD_set (by omega), if_pos rfl]
  have hQ1 : l1.map Fl.q = fs.set k ⟨(gq fs k).bs ++ [bb], (gq fs k).bg, (gq fs k).en⟩ := by rw [← hl1, List.map_set, hq, flq hq k]; rfl
  have hfl : k < fs.length := by rw [← hq, List.length_map]; omega
  have hg1 : gq (fs.set k ⟨(gq fs k).bs ++ [bb], (gq fs k).bg, (gq fs k).en⟩) k = ⟨(gq fs k).bs ++ [bb], (gq fs k).bg, (gq fs k).en⟩ := by rw [gq_set hfl, if_pos rfl]
  have hbl : (l1.getD k Fl.nil).bs.length = (gq fs k).bs.length + 1 := by rw [hl1k, flq hq k]; simp [Fl.q]
  have hen1 : (l1.getD k Fl.nil).en = (gq fs k).en := by rw [hl1k, flq hq k]; rfl
  refine tr_region ?_
  refine tl_step rfl (oj_val (y_move (fe_t rfl)) ?_)
  refine tl_step rfl (oj_val (y_nilCheckE (fe_t rfl) (rdl_vec 3 rfl) (by rw [flat_len hcF]; omega)) ?_)
  refine tl_step rfl (oj_val (y_fieldAddrE (td := 79) Try.underlying179 rfl rfl Try.sizeOf79 rfl (fe_t rfl) (rdl_vec 3 rfl) (by rw [flat_len hcF]; omega)) ?_)
  refine tl_step rfl (oj_val (y_ld Try.isAgg79 (fe_t rfl) (rdl_vec 3 rfl) (flatG (d := Fl.nil) (i := 0) hcF (by omega) rfl)) ?_)
  refine tl_step rfl (oj_val (y_len Try.underlying79 (fe_t rfl)) ?_)
  refine tl_step rfl (oj_val (y_eq (fe_t rfl) fe_c) ?_)
  refine tl_nil ?_
  refine tx_then ?_
  refine tr_condp (fe_t rfl) (fun hq1 => ?_) (fun hq2 => ?_)
  · try (exfalso; omega)
    all_goals
      refine tb_draw1 11 [_, _, _, _] [_, _, _] (fun w h => h.pick [0, 2, 3, 4] _ rfl (by decide)) (fun w h => (h.weak (i := 2) rfl).pick [2, 0, 1] _ rfl (by decide)) rfl ?_
      refine tb_float (i := 0) rfl (by kernel_rfl) rfl (wants_none rfl) (yq_of (y_move (fe_t rfl))) ?_
      refine tb_float (i := 1) rfl (by kernel_rfl) rfl (wants_none rfl) (yq_of (y_move (fe_t rfl))) ?_
      refine tb_float (i := 2) rfl (by kernel_rfl) rfl (wants_none rfl) (yq_of (y_move (fe_t rfl))) ?_
      refine tb_float (i := 3) rfl (by kernel_rfl) rfl (wants_none rfl) (yq_of (y_nilCheckR (fe_t rfl) (rch_w 0 rfl (by omega)))) ?_
      refine tb_float (i := 4) rfl (by kernel_rfl) rfl (wants_none rfl) (yq_of (y_fieldAddrR (td := 3) Try.underlying179 rfl rfl Try.sizeOf3 rfl (fe_t rfl) (rch_w 0 rfl (by omega)))) ?_
      refine tb_float (i := 6) rfl (by kernel_rfl) rfl (wants_none rfl) (yq_of (y_move (fe_t rfl))) ?_
      refine tb_float (i := 7) rfl (by kernel_rfl) rfl (wants_none rfl) (yq_of (y_nilCheck (fe_t rfl))) ?_
      refine tb_float (i := 8) rfl (by kernel_rfl) rfl (wants_none rfl) (yq_of (y_fieldAddr (td := 3) Try.underlying172 rfl rfl Try.sizeOf3 (o' := 3) rfl (fe_t rfl))) ?_
      refine tb_float (i := 9) rfl (by kernel_rfl) rfl (wants_none rfl) (yq_of (y_ldb 2 Try.isAgg3 (fe_t rfl) rfl rfl)) ?_
      refine tb_one1 (i := 5) rfl (by kernel_rfl) (by kernel_rfl) (wants_none rfl) (oj_val (y_ld Try.isAgg3 (fe_t rfl) (rdl_vec 3 rfl) (flatG (d := Fl.nil) (i := 2) hcF (by omega) rfl)) (⟨fun w h => h.pick [0, 2, 3, 4] _ rfl (by decide), ?_⟩))
      refine tb_float (i := 10) rfl (by kernel_rfl) rfl (wants_none rfl) (yq_of (y_max (fe_t rfl) (fe_t rfl))) ?_
      refine tb_one2 (i := 11) rfl (by kernel_rfl) (by kernel_rfl) (wants_none rfl) (oj_call2 Try.call175 fe_f (fel_cons (fe_t rfl) (fel_cons (fe_t rfl) (fel_cons (fe_t rfl) fel_nil))) (fun w' hS => headE (pickT (l := [_, _, _, _, _]) hS [2, 3, 4, 0] rfl (by decide)) hr hn hl1n hQ1 (k := k) hk (by rw [hg1]; simp) (by rw [hg1]; show 1 ≤ hd ((gq fs k).bs ++ [bb]) ∧ _; rw [hd_one (by omega)]; exact hbb) hwk hsm (by omega)) (fun q1 hQ2 => ⟨fun w h => (h.weak (i := 1) rfl).pick [1, 3, 0] _ rfl (by decide), ?_⟩))
      refine tb_done (by kernel_rfl) ?_
      refine tx_end (res0 Try.results140 ) (fun w' hS => ?_)
      have h1 := pickT (l := [_, _, _, _]) hS [0, 1, 2] rfl (by decide)
      exact ⟨q1, ⟨hQ2.1, by rw [hQ2.2, hg1, List.set_set]; unfold inQ; rw [decide_eq_true (show (gq fs k).bs.length = 0 by omega), hd_one (by omega), hen1, Int.mul_assoc]; rfl⟩, rfl, h1⟩
  · try (exfalso; omega)
    all_goals
      refine tr_skip ?_
      refine tx_end (res0 Try.results140 ) (fun w' hS => ?_)
      have h1 := pickT (l := [_, _, _, _, _]) hS [2, 3, 4] rfl (by decide)
      exact ⟨l1, ⟨hl1n, by rw [hQ1]; unfold inQ; rw [decide_eq_false (show ¬ (gq fs k).bs.length = 0 by omega)]; rfl⟩, rfl, h1⟩

end Go.Proofs.Ytcpdelkamckmfaa.Wfq
