/- the method out. -/
import Derived.Test.YtcpdelkamckmfaaWqI
import Derived.Test.YtcpdelkamckmfaaWqP
namespace Go.Proofs.Ytcpdelkamckmfaa.Wfq
open Go.RowKit Go.Proofs.Ytcpdelkamckmfaa.E Go.Proofs.Ytcpdelkamckmfaa.Scfq

set_option maxRecDepth 100000 in
set_option maxHeartbeats 4000000 in
theorem outE {w0 w : World} {T : List Res} {b g : Nat} {A : Option Addr} {n c : Nat} {ws : List Int} {sm tm : Int} {l : List Fl} {fs : List Q} (hS : St w0 w (blk b [.slice A n c, .slice (some ⟨g, 0, none⟩) n n, (.int .i64 sm), (.int .i64 tm)] :: vec 179 3 (.slice (some ⟨g, 0, none⟩) n n) n (l.flatMap cF) :: subs 3 1 (l.map Fl.bV) :: T)) (hr : Rd w0 A (ws.map (.int .i64))) (hn : ws.length = n) (hll : l.length = n) (hq : l.map Fl.q = fs) (h16 : n ≤ 16) (hok : ∀ k, Okq 3200000000000 (gq fs k)) (hgw : ∀ k, k < n → 1 ≤ ws.getD k 0 ∧ ws.getD k 0 ≤ 12) (hsm : 0 ≤ sm ∧ sm ≤ 192) (htm : 0 ≤ tm ∧ tm ≤ 3200000000000) :
    Calls Try.prog 139 #[.pointer (some ⟨b, 0, none⟩)] w fun e w' => ∃ r : (Int × Int) × Bool × Int × List Fl, (r.2.2.2.length = n ∧ ((r.2.1 = false ∧ r.1 = (0, 0) ∧ r.2.2.1 = tm ∧ r.2.2.2.map Fl.q = fs ∧ ∀ j, j < n → (gq fs j).bs.length = 0) ∨ ∃ (q : Nat) (lb : Int), r.2.1 = true ∧ Least fs n lb ∧ May fs n (max tm lb) q ∧ r.1 = ((q : Int), hd (gq fs q).bs) ∧ r.2.2.1 = max tm lb + hd (gq fs q).bs * 27720 ∧ r.2.2.2.map Fl.q = fs.set q (outQ (27720 / ws.getD q 0 * sm) (gq fs q)))) ∧ e = .returned (.tuple #[.agg #[(.int .i64 r.1.1), (.int .i64 r.1.2)], .bool r.2.1]) ∧ St w0 w' (blk b [.slice A n c, .slice (some ⟨g, 0, none⟩) n n, (.int .i64 sm), (.int .i64 r.2.2.1)] :: vec 179 3 (.slice (some ⟨g, 0, none⟩) n n) n (r.2.2.2.flatMap cF) :: subs 3 1 (r.2.2.2.map Fl.bV) :: T) := by
  refine calls_tr Try.func139 Try.ntmps139 rfl rfl hS ?_
  refine tr_seq ?_
  refine tr_region ?_
  refine tl_step rfl (oj_alloc Try.zeroValue102 (fun rs => ?_))
  refine tl_step rfl (oj_val (y_assign fe_c) ?_)
  refine tl_nil ?_
  refine tx_then ?_
  refine tr_seq ?_
  refine tr_region ?_
  refine tl_step rfl (oj_val (y_move (fe_t rfl)) ?_)
  refine tl_step rfl (oj_call2 Try.call174 fe_f (fel_cons (fe_t rfl) fel_nil) (fun w' hS => pickE (pickT (l := [_, _, _, _]) hS [1, 2, 3, 0] rfl (by decide)) hr hn hll hq h16 (fun k => (hok k).1.1)) (fun r1 hP => ?_))
  refine tl_step rfl (oj_val (y_assign (fe_t rfl)) ?_)
  refine tl_nil ?_
  refine tx_then ?_
  refine tr_seq ?_
  refine tr_seq ?_
  generalize hr11 : r1.1 = z1 at hP ⊢
  generalize hr12 : r1.2 = tm1 at hP ⊢
  refine tr_region ?_
  refine tl_step rfl (oj_val (y_move (fe_t rfl)) ?_)
  refine tl_step rfl (oj_val (y_lss (fe_t rfl) fe_c) ?_)
  refine tl_nil ?_
  refine tx_then ?_
  refine tr_condp (fe_t rfl) (fun hq1 => ?_) (fun hq2 => ?_)
  · try (exfalso; omega)
    all_goals
      obtain ⟨e1, e2, e3⟩ : z1 = -1 ∧ tm1 = tm ∧ ∀ j, j < n → (gq fs j).bs.length = 0 := by
        rcases hP with h | ⟨q, lb, h, _⟩
        · exact h
        · omega
      refine tr_seq ?_
      refine tr_region ?_
      refine tl_step rfl (oj_val (y_build (is := []) (vs := []) (cs := [.int .i64 0, .int .i64 0]) rfl fel_nil (by kernel_rfl)) ?_)
      refine tl_step rfl (oj_storeW 3 Try.sizeOf102 (fe_t rfl) (fe_t rfl) rfl rfl rfl rfl rfl (?_))
      refine tl_step rfl (oj_val (y_assign fe_c) ?_)
      refine tl_nil ?_
      refine tx_then ?_
      refine tr_ret ?_
      refine tx_then_ret ?_
      refine tx_ret (res2 Try.results139 (rok_b 3 Try.isAgg102 Try.sizeOf102 rfl rfl rfl) (rok_t rfl)) (fun w' hS => ?_)
      have h1 := pickT (l := [_, _, _, _]) hS [0, 1, 2] rfl (by decide)
      subst e2
      exact ⟨((0, 0), false, tm1, l), ⟨hll, .inl ⟨rfl, rfl, rfl, hq, e3⟩⟩, rfl, h1⟩
  · try (exfalso; omega)
    all_goals
      obtain ⟨q, lb, e1, hL, e2, hM⟩ : ∃ (q : Nat) (lb : Int), z1 = q ∧ Least fs n lb ∧ tm1 = max tm lb ∧ May fs n (max tm lb) q := by
        rcases hP with ⟨h, _⟩ | h
        · omega
        · exact h
      subst e1 e2
      clear hP
      have hqn := hM.1
      have hgq := flq hq q
      have h0l : 0 < (l.getD q Fl.nil).bs.length := by have h := hM.2.1; rw [hgq] at h; exact h
      have hg0 : 0 < (gq fs q).bs.length := hM.2.1
      have hokq := hok q
      have hen0 := hokq.2.1
      have hhd := hd_ok hokq hM.2.1
      have hhd2 : 1 ≤ hd (l.getD q Fl.nil).bs ∧ hd (l.getD q Fl.nil).bs ≤ 1500 := by have h := hhd; rw [hgq] at h; exact h
      obtain ⟨⟨j0, j1, j2, j3⟩, _⟩ := id hL
      have hlb := (hok j0).1
      rw [j3] at hlb
      refine tr_skip ?_
      refine tx_then ?_
      refine tr_seq ?_
      refine tr_region ?_
      refine tl_step rfl (oj_val (y_move (fe_t rfl)) ?_)
      refine tl_step rfl (oj_val (y_nilCheck (fe_t rfl)) ?_)
      refine tl_step rfl (oj_val (y_fieldAddr (td := 170) Try.underlying172 rfl rfl Try.sizeOf170 (o' := 1) rfl (fe_t rfl)) ?_)
      refine tl_step rfl (oj_val (y_ldb 0 Try.isAgg170 (fe_t rfl) rfl rfl) ?_)
      refine tl_step rfl (oj_val (y_move (fe_t rfl)) ?_)
      refine tl_step rfl (oj_val (y_index Try.underlying170 Try.sizeOf179 (fe_t rfl) (fe_t rfl) (rdl_vec 1 rfl) (by rw [flat_len hcF]; omega) (by decide) (by omega) rfl) ?_)
      refine tl_step rfl (oj_val (y_assign (fe_t rfl)) ?_)
      refine tl_nil ?_
      refine tx_then ?_
      refine tr_seq ?_
      refine tr_region ?_
      refine tl_step rfl (oj_val (y_move (fe_t rfl)) ?_)
      refine tl_step rfl (oj_val (y_move (fe_t rfl)) ?_)
      refine tl_step rfl (oj_val (y_nilCheckE (fe_t rfl) (rdl_vec 1 rfl) (by rw [flat_len hcF]; omega)) ?_)
      refine tl_step rfl (oj_val (y_fieldAddrE (td := 79) Try.underlying179 rfl rfl Try.sizeOf79 rfl (fe_t rfl) (rdl_vec 1 rfl) (by rw [flat_len hcF]; omega)) ?_)
      refine tl_step rfl (oj_val (y_ld Try.isAgg79 (fe_t rfl) (rdl_vec 1 rfl) (flatG (d := Fl.nil) (i := 0) hcF (by omega) rfl)) ?_)
      refine tl_step rfl (oj_val (y_indexI (m := 0) Try.underlying79 Try.sizeOf3 (fe_t rfl) fe_c (subG (f := Fl.bV) (d := Fl.nil) 2 rfl (by omega)) (by simp [Fl.bV, cI]) (by decide) (by decide) (by omega) rfl) ?_)
      refine tl_step rfl (oj_val (y_ld Try.isAgg3 (fe_t rfl) (subG (f := Fl.bV) (d := Fl.nil) 2 rfl (by omega)) (hdI (by omega))) ?_)
      refine tl_step rfl (oj_val ((fun {u0 u1} hx hb => y_build (is := [0, 1]) (vs := [u0, u1]) (cs := [u0, u1]) rfl hx hb) (fel_cons (fe_t rfl) (fel_cons (fe_t rfl) fel_nil)) (by kernel_rfl)) ?_)
      refine tl_step rfl (oj_alloc Try.zeroValue102 (fun sb => ?_))
      refine tl_step rfl (oj_storeW 0 Try.sizeOf102 (fe_t rfl) (fe_t rfl) rfl rfl rfl rfl rfl (?_))
      refine tl_nil ?_
      refine tx_then ?_
      refine tr_seq ?_
      refine tr_subCut 3 q rfl (map_at (d := Fl.nil) Fl.bV (by omega)) (by show 1 ≤ (l.getD q Fl.nil).bs.length; omega) cut_b ?_
      refine tr_region ?_
      refine tl_step rfl (oj_val (y_move (fe_t rfl)) ?_)
      refine tl_step rfl (oj_val (y_move (fe_t rfl)) ?_)
      refine tl_step rfl (oj_val (y_nilCheckE (fe_t rfl) (rdl_vec 2 rfl) (by rw [flat_len hcF]; omega)) ?_)
      refine tl_step rfl (oj_val (y_fieldAddrE (td := 79) Try.underlying179 rfl rfl Try.sizeOf79 rfl (fe_t rfl) (rdl_vec 2 rfl) (by rw [flat_len hcF]; omega)) ?_)
      refine tl_step rfl (oj_val (y_ld Try.isAgg79 (fe_t rfl) (rdl_vec 2 rfl) (flatG (d := Fl.nil) (i := 0) hcF (by omega) rfl)) ?_)
      refine tl_step rfl (oj_val (y_cutL (l := 1) Try.underlying79 Try.sizeOf3 (fe_t rfl) fe_c (by omega)) ?_)
      refine tl_step rfl (oj_val (y_nilCheckE (fe_t rfl) (rdl_vec 2 rfl) (by rw [flat_len hcF]; omega)) ?_)
      refine tl_step rfl (oj_val (y_fieldAddrE (td := 79) Try.underlying179 rfl rfl Try.sizeOf79 rfl (fe_t rfl) (rdl_vec 2 rfl) (by rw [flat_len hcF]; omega)) ?_)
      refine tl_step rfl (oj_storeG (i := 2) Fl.nil (⟨cutA (l.getD q Fl.nil).A1 1 (l.getD q Fl.nil).c1 1, (l.getD q Fl.nil).c1 - 1, (l.getD q Fl.nil).bs.drop 1, (l.getD q Fl.nil).bg, (l.getD q Fl.nil).en⟩ : Fl) hcF Try.sizeOf79 (fe_t rfl) (fe_t rfl) rfl rfl rfl (by (try rw [List.length_set]); omega) rfl (by simp [cF]) (?_))
      refine tl_nil ?_
      refine tx_then ?_
      refine tr_seq ?_
      generalize hl1 : l.set q (⟨cutA (l.getD q Fl.nil).A1 1 (l.getD q Fl.nil).c1 1, (l.getD q Fl.nil).c1 - 1, (l.getD q Fl.nil).bs.drop 1, (l.getD q Fl.nil).bg, (l.getD q Fl.nil).en⟩ : Fl) = l1
      have hl1n : l1.length = n := by rw [← hl1, List.length_set]; exact hll
      have hl1k : l1.getD q Fl.nil = (⟨cutA (l.getD q Fl.nil).A1 1 (l.getD q Fl.nil).c1 1, (l.getD q Fl.nil).c1 - 1, (l.getD q Fl.nil).bs.drop 1, (l.getD q Fl.nil).bg, (l.getD q Fl.nil).en⟩ : Fl) := by rw [← hl1, getD_set (by omega), if_pos rfl]
      have hQ1 : l1.map Fl.q = fs.set q ⟨(gq fs q).bs.drop 1, (gq fs q).bg, (gq fs q).en⟩ := by rw [← hl1, List.map_set, hq, hgq]; rfl
      have hfl : q < fs.length := by rw [← hq, List.length_map]; omega
      have hg1 : gq (fs.set q ⟨(gq fs q).bs.drop 1, (gq fs q).bg, (gq fs q).en⟩) q = ⟨(gq fs q).bs.drop 1, (gq fs q).bg, (gq fs q).en⟩ := by rw [gq_set hfl, if_pos rfl]
      have hbl : (l1.getD q Fl.nil).bs.length = (gq fs q).bs.length - 1 := by rw [hl1k, hgq]; simp [Fl.q]
      have hen1 : (l1.getD q Fl.nil).en = (gq fs q).en := by rw [hl1k, hgq]; rfl
      have hhq : hd (l.getD q Fl.nil).bs = hd (gq fs q).bs := by rw [hgq]; rfl
      refine tb_draw1 10 [_, _, _, _, _] [_, _, _, _] (fun w h => h.pick [0, 1, 2, 3, 4] _ rfl (by decide)) (fun w h => h.pick [0, 2, 3, 4] _ rfl (by decide)) rfl ?_
      refine tb_float (i := 0) rfl (by kernel_rfl) rfl (wants_none rfl) (yq_of (y_move (fe_t rfl))) ?_
      refine tb_float (i := 1) rfl (by kernel_rfl) rfl (wants_none rfl) (yq_of (y_nilCheck (fe_t rfl))) ?_
      refine tb_float (i := 2) rfl (by kernel_rfl) rfl (wants_none rfl) (yq_of (y_fieldAddr (td := 3) Try.underlying172 rfl rfl Try.sizeOf3 (o' := 3) rfl (fe_t rfl))) ?_
      refine tb_float1 (i := 3) rfl (by kernel_rfl) (by kernel_rfl) rfl (wants_none rfl) (yq_of (y_ldb 1 Try.isAgg3 (fe_t rfl) rfl rfl)) ?_
      refine tb_float (i := 4) rfl (by kernel_rfl) rfl (wants_none rfl) (yq_of (y_fieldAddr (td := 3) Try.underlying102 rfl rfl Try.sizeOf3 (o' := 1) rfl (fe_t rfl))) ?_
      refine tb_float (i := 5) rfl (by kernel_rfl) rfl (wants_none rfl) (yq_of (y_ldb 0 Try.isAgg3 (fe_t rfl) rfl rfl)) ?_
      refine tb_float (i := 6) rfl (by kernel_rfl) rfl (wants_none rfl) (yq_of (y_mul (fe_t rfl) fe_c (by omega))) ?_
      refine tb_float (i := 7) rfl (by kernel_rfl) rfl (wants_none rfl) (yq_of (y_add (fe_t rfl) (fe_t rfl) (by omega))) ?_
      refine tb_float (i := 8) rfl (by kernel_rfl) rfl (wants_none rfl) (yq_of (y_nilCheck (fe_t rfl))) ?_
      refine tb_float (i := 9) rfl (by kernel_rfl) rfl (wants_none rfl) (yq_of (y_fieldAddr (td := 3) Try.underlying172 rfl rfl Try.sizeOf3 (o' := 3) rfl (fe_t rfl))) ?_
      refine tb_one2 (i := 10) rfl (by kernel_rfl) (by kernel_rfl) (wants_none rfl) (oj_store1 1 Try.sizeOf3 (fe_t rfl) (fe_t rfl) rfl rfl rfl rfl (⟨fun w h => h.pick [0, 2, 3, 4] _ rfl (by decide), ?_⟩))
      refine tb_done (by kernel_rfl) ?_
      refine tx_then ?_
      refine tr_seq ?_
      refine tr_seq ?_
      refine tr_region ?_
      refine tl_step rfl (oj_val (y_move (fe_t rfl)) ?_)
      refine tl_step rfl (oj_val (y_nilCheckE (fe_t rfl) (rdl_vec 2 rfl) (by rw [flat_len hcF]; omega)) ?_)
      refine tl_step rfl (oj_val (y_fieldAddrE (td := 79) Try.underlying179 rfl rfl Try.sizeOf79 rfl (fe_t rfl) (rdl_vec 2 rfl) (by rw [flat_len hcF]; omega)) ?_)
      refine tl_step rfl (oj_val (y_ld Try.isAgg79 (fe_t rfl) (rdl_vec 2 rfl) (flatG (d := Fl.nil) (i := 0) hcF (by omega) rfl)) ?_)
      refine tl_step rfl (oj_val (y_len Try.underlying79 (fe_t rfl)) ?_)
      refine tl_step rfl (oj_val (y_gtr (fe_t rfl) fe_c) ?_)
      refine tl_nil ?_
      refine tx_then ?_
      refine tr_condp (fe_t rfl) (fun hq3 => ?_) (fun hq4 => ?_)
      · try (exfalso; omega)
        all_goals
          refine tr_region ?_
          refine tl_step rfl (oj_val (y_move (fe_t rfl)) ?_)
          refine tl_step rfl (oj_val (y_move (fe_t rfl)) ?_)
          refine tl_step rfl (oj_val (y_move (fe_t rfl)) ?_)
          refine tl_step rfl (oj_val (y_nilCheckE (fe_t rfl) (rdl_vec 2 rfl) (by rw [flat_len hcF]; omega)) ?_)
          refine tl_step rfl (oj_val (y_fieldAddrE (td := 3) Try.underlying179 rfl rfl Try.sizeOf3 rfl (fe_t rfl) (rdl_vec 2 rfl) (by rw [flat_len hcF]; omega)) ?_)
          refine tl_step rfl (oj_val (y_ld Try.isAgg3 (fe_t rfl) (rdl_vec 2 rfl) (flatG (d := Fl.nil) (i := 2) hcF (by omega) rfl)) ?_)
          refine tl_step rfl (oj_call2 Try.call175 fe_f (fel_cons (fe_t rfl) (fel_cons (fe_t rfl) (fel_cons (fe_t rfl) fel_nil))) (fun w' hS => headE (pickT (l := [_, _, _, _, _]) hS [1, 2, 3, 0, 4] rfl (by decide)) hr hn hl1n hQ1 (k := q) hqn (by rw [hg1]; show 0 < ((gq fs q).bs.drop 1).length; rw [List.length_drop]; omega) (by rw [hg1]; exact hokq.2.2 _ (List.mem_of_mem_drop (hd_mem (fun e => by have h := congrArg List.length e; rw [List.length_drop] at h; simp at h; omega)))) (hgw q hqn) hsm (by omega)) (fun q2 hQ2 => ?_))
          refine tl_nil ?_
          refine tx_then ?_
          refine tr_seq ?_
          refine tr_region ?_
          refine tl_step rfl (oj_val (y_ldbA 3 Try.isAgg102 Try.sizeOf102 (fe_t rfl) rfl rfl rfl) ?_)
          refine tl_step rfl (oj_storeW 4 Try.sizeOf102 (fe_t rfl) (fe_t rfl) rfl rfl rfl rfl rfl (?_))
          refine tl_step rfl (oj_val (y_assign fe_c) ?_)
          refine tl_nil ?_
          refine tx_then ?_
          refine tr_ret ?_
          refine tx_ret (res2 Try.results139 (rok_b 4 Try.isAgg102 Try.sizeOf102 rfl rfl rfl) (rok_t rfl)) (fun w' hS => ?_)
          have h1 := pickT (l := [_, _, _, _, _]) hS [0, 1, 2] rfl (by decide)
          exact ⟨(((q : Int), hd (l.getD q Fl.nil).bs), true, _, q2), ⟨hQ2.1, .inr ⟨q, lb, rfl, hL, hM, by rw [hhq], by rw [hhq], by rw [hQ2.2, hg1, List.set_set]; unfold outQ; rw [decide_eq_false (show ¬ (gq fs q).bs.length = 1 by omega), hen1, Int.mul_assoc]; rfl⟩⟩, rfl, h1⟩
      · try (exfalso; omega)
        all_goals
          refine tr_skip ?_
          refine tx_then ?_
          refine tr_seq ?_
          refine tr_region ?_
          refine tl_step rfl (oj_val (y_ldbA 0 Try.isAgg102 Try.sizeOf102 (fe_t rfl) rfl rfl rfl) ?_)
          refine tl_step rfl (oj_storeW 4 Try.sizeOf102 (fe_t rfl) (fe_t rfl) rfl rfl rfl rfl rfl (?_))
          refine tl_step rfl (oj_val (y_assign fe_c) ?_)
          refine tl_nil ?_
          refine tx_then ?_
          refine tr_ret ?_
          refine tx_ret (res2 Try.results139 (rok_b 4 Try.isAgg102 Try.sizeOf102 rfl rfl rfl) (rok_t rfl)) (fun w' hS => ?_)
          have h1 := pickT (l := [_, _, _, _, _]) hS [1, 2, 3] rfl (by decide)
          exact ⟨(((q : Int), hd (l.getD q Fl.nil).bs), true, _, l1), ⟨hl1n, .inr ⟨q, lb, rfl, hL, hM, by rw [hhq], by rw [hhq], by rw [hQ1]; unfold outQ; rw [decide_eq_true (show (gq fs q).bs.length = 1 by omega)]; rfl⟩⟩, rfl, h1⟩

end Go.Proofs.Ytcpdelkamckmfaa.Wfq
