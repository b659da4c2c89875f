/- hier.Play. -/
import Derived.Test.YtfcpmcdlgkfolaaDoorZhHrX
namespace Go.Proofs.YtfcpmcdlgkfolaaDoor.Hier
open Go.RowKit Go.Proofs.YtfcpmcdlgkfolaaDoor.E Go.Proofs.YtfcpmcdlgkfolaaDoor.Wfq
open Go.Proofs.YtfcpmcdlgkfolaaDoor.Scfq (hd hd_mem)

set_option maxRecDepth 100000 in
set_option maxHeartbeats 8000000 in
theorem play_ok (A : Option Addr) (n c : Nat) (ns : List (Int × Int)) (B : Option Addr) (m d : Nat) (os : List O3) (w : World) (hr : Rd w A (ns.flatMap c2)) (hn : ns.length = n) (hm : n ≤ 140737488355328) (hr2 : Rd w B (os.flatMap c3)) (hn2 : os.length = m) (hm2 : m ≤ 140737488355328) (hw : wrongT ns = 0) (hmo : m ≤ 400) :
    Calls Tryd.prog 28 #[.slice A n c, .slice B m d] w fun e w' => ∃ r : S × Vs × Vs × Vs, (Run (trOf ns) os m r.1 ∧ (r.2.1.n = r.1.errs.length ∧ r.2.1.xs = cI r.1.errs) ∧ (r.2.2.1.n = r.1.sent.length ∧ r.2.2.1.xs = r.1.sent.flatMap c2) ∧ r.2.2.2.n = n ∧ r.2.2.2.xs = cI (left r.1)) ∧ e = .returned (.tuple #[.slice r.2.1.A r.2.1.n r.2.1.c, .slice r.2.2.1.A r.2.2.1.n r.2.2.1.c, .slice r.2.2.2.A r.2.2.2.n r.2.2.2.c, (.int .i64 0)]) ∧ St w w' [vec 25 1 (.slice r.2.1.A r.2.1.n r.2.1.c) r.2.1.n r.2.1.xs, vec 81 2 (.slice r.2.2.1.A r.2.2.1.n r.2.2.1.c) r.2.2.1.n r.2.2.1.xs, vec 3 1 (.slice r.2.2.2.A r.2.2.2.n r.2.2.2.c) r.2.2.2.n r.2.2.2.xs] := by
  obtain ⟨t, ht⟩ : ∃ t, t = trOf ns := ⟨_, rfl⟩
  have g : t.Good := by rw [ht]; exact good_of hw
  have htn : t.n = n := by rw [ht, trOf_n, hn]
  have hn16 := g.n16
  have hn1 := g.n1
  have hlvs := leaves_len (t := trOf ns) (k := n)
  refine calls_tr Tryd.func28 Tryd.ntmps28 rfl rfl (St.refl _) ?_
  refine tr_seq ?_
  refine tr_region ?_
  refine tl_step rfl (oj_val (y_assign fe_c) ?_)
  refine tl_step rfl (oj_val (y_assign fe_c) ?_)
  refine tl_step rfl (oj_val (y_assign fe_c) ?_)
  refine tl_step rfl (oj_val (y_assign fe_c) ?_)
  refine tl_nil ?_
  refine tx_then ?_
  refine tr_seq ?_
  refine tr_region ?_
  refine tl_step rfl (oj_val (y_move (fe_t rfl)) ?_)
  refine tl_step rfl (oj_call Tryd.call55 fe_f (fel_cons (fe_t rfl) fel_nil) (fun w' hS => leaves_ok A n c ns w' (Rd.below hr hS.below) hn hm hw) (fun r0 h0 => ?_))
  refine tl_step rfl (oj_val (y_move (fe_t rfl)) ?_)
  refine tl_step rfl (oj_val (y_extract (fe_t rfl) rfl) ?_)
  refine tl_step rfl (oj_val (y_extract (fe_t rfl) rfl) ?_)
  refine tl_step rfl (oj_val (y_assign (fe_t rfl)) ?_)
  refine tl_step rfl (oj_val (y_assign (fe_t rfl)) ?_)
  refine tl_nil ?_
  refine tx_then ?_
  refine tr_seq ?_
  refine tr_seq ?_
  refine tr_region ?_
  refine tl_step rfl (oj_val (y_move (fe_t rfl)) ?_)
  refine tl_step rfl (oj_val (y_neq (fe_t rfl) fe_c) ?_)
  refine tl_nil ?_
  refine tx_then ?_
  refine tr_condp (fe_t rfl) (fun hq1 => ?_) (fun hq2 => ?_)
  · exact absurd rfl hq1
  · try (exfalso; omega)
    all_goals
      refine tr_skip ?_
      refine tx_then ?_
      refine tr_seq ?_
      refine tr_seq ?_
      have h0v : r0.n = (kI (leavesTo (trOf ns) n)).length ∧ r0.xs = cI (kI (leavesTo (trOf ns) n)) := ⟨by rw [kI_len]; exact h0.1, h0.2⟩
      refine tr_region ?_
      refine tl_step rfl (oj_val (y_move (fe_t rfl)) ?_)
      refine tl_step rfl (oj_val (y_len Tryd.underlying68 (fe_t rfl)) ?_)
      refine tl_step rfl (oj_val (y_gtr (fe_t rfl) fe_c) ?_)
      refine tl_nil ?_
      refine tx_then ?_
      refine tr_condp (fe_t rfl) (fun hq3 => ?_) (fun hq4 => ?_)
      · exfalso; omega
      · try (exfalso; omega)
        all_goals
          refine tr_skip ?_
          refine tx_then ?_
          refine tr_seq ?_
          refine tr_region ?_
          refine tl_step rfl (oj_val (y_build (is := []) (vs := []) (cs := [.slice none 0 0]) rfl fel_nil (by kernel_rfl)) ?_)
          refine tl_step rfl (oj_box (fe_t rfl) (fun en => ?_))
          refine tl_step rfl (oj_val (y_assign (fe_t rfl)) ?_)
          refine tl_nil ?_
          refine tx_then ?_
          refine tr_seq ?_
          refine tr_seq ?_
          refine tr_add (r := subs 3 1 (padK n [])) (by rw [pad_zero]; exact subs_nils) (by rw [pad_zero]; exact subs_nils_foot) ?_
          refine tr_region ?_
          refine tl_step rfl (oj_val (y_move (fe_t rfl)) ?_)
          refine tl_step rfl (oj_val (y_len Tryd.underlying67 (fe_t rfl)) ?_)
          refine tl_step rfl (oj_val (y_move fe_c) ?_)
          refine tl_nil ?_
          refine tx_then ?_
          refine tr_block ?_
          refine tr_add (r := vec 131 10 (.slice none 0 0) 0 []) vec_nil rfl ?_
          refine tr_loop4 [11, 12, 13, 39, 40, 41, 42, 43, 44, 45, 46, 47, 48, 49, 50, 51, 52, 53, 54, 55, 56, 57, 58, 59, 60, 61, 62, 63, 64, 65, 66, 67, 68, 69, 70, 71, 72, 73, 74, 75, 76, 77, 78, 79, 80, 81, 82, 83, 84, 85, 86, 87, 88] (fun (k : Nat) (l : List Nd) (G : Option Addr) (cg : Nat) => [(39, .int .i64 (k : Int))]) 0 (fun (k : Nat) (l : List Nd) (G : Option Addr) (cg : Nat) => [(2, blk en [.slice G k cg]), (0, vec 131 10 (.slice G k cg) k (l.flatMap cN)), (1, subs 3 1 (padK n l))]) (fun (k : Nat) (l : List Nd) (G : Option Addr) (cg : Nat) => k ≤ n ∧ Bld t k l) (fun (k : Nat) (l : List Nd) (G : Option Addr) (cg : Nat) => n - k) (0) ([]) (_) (_) (cov_cons (by first | rfl | exact v_int (by omega) | exact v_int (by dsimp only; omega)) (cov_nil)) (fun w h => h) ?_ ?_
          · try dsimp only
            exact ⟨by omega, bld_zero⟩
          intro k l G cg hp
          obtain ⟨hk, hB⟩ := hp
          have hBl := hB.1
          refine tr_seq ?_
          refine tr_region ?_
          refine tl_step rfl (oj_val (y_lss (fe_t rfl) (fe_t rfl)) ?_)
          refine tl_nil ?_
          refine tx_then ?_
          refine tr_seq ?_
          refine tr_condp (fe_t rfl) (fun hq5 => ?_) (fun hq6 => ?_)
          · try (exfalso; omega)
            all_goals
              refine tr_skip ?_
              refine tx_then ?_
              refine tr_seq ?_
              refine tr_block ?_
              refine tr_seq ?_
              have hkn : k < t.n := by omega
              have hlt := g.lt hkn
              have hwk := g.w k hkn
              rw [ht, trOf_u] at hlt
              rw [ht, trOf_w] at hwk
              refine tr_region ?_
              refine tl_step rfl (oj_val (y_move (fe_t rfl)) ?_)
              refine tl_step rfl (oj_val (y_index Tryd.underlying67 Tryd.sizeOf72 (fe_t rfl) (fe_t rfl) (rdl_out hr) (lenN hn) (by decide) (by omega) rfl) ?_)
              refine tl_step rfl (oj_val (y_ldA (cs := [(.int .i64 (n1 ns k)), (.int .i64 (n2 ns k))]) Tryd.isAgg72 Tryd.sizeOf72 (fe_t rfl) (rdl_out hr) rfl (by decide) (getN (by omega))) ?_)
              refine tl_step rfl (oj_alloc Tryd.zeroValue72 (fun bn => ?_))
              refine tl_step rfl (oj_val (y_assign (fe_t rfl)) ?_)
              refine tl_step rfl (oj_storeW 0 Tryd.sizeOf72 (fe_t rfl) (fe_t rfl) rfl rfl rfl rfl rfl (?_))
              refine tl_nil ?_
              refine tx_then ?_
              refine tr_seq ?_
              refine tb_draw 11 (sel _ [0, 2, 4]) (fun w h => h.sel _ rfl (by decide)) rfl ?_
              refine tb_float (i := 0) rfl (by kernel_rfl) rfl (wants_none rfl) (yq_of (y_move (fe_t rfl))) ?_
              refine tb_float (i := 1) rfl (by kernel_rfl) rfl (wants_none rfl) (yq_of (y_move (fe_t rfl))) ?_
              refine tb_float (i := 2) rfl (by kernel_rfl) rfl (wants_none rfl) (yq_of (y_nilCheck (fe_t rfl))) ?_
              refine tb_float (i := 3) rfl (by kernel_rfl) rfl (wants_none rfl) (yq_of (y_fieldAddr (td := 127) Tryd.underlying129 rfl rfl Tryd.sizeOf127 (o' := 0) rfl (fe_t rfl))) ?_
              refine tb_float1 (i := 4) rfl (by kernel_rfl) (by kernel_rfl) rfl (wants_none rfl) (yq_of (y_ldb 3 Tryd.isAgg127 (fe_t rfl) rfl rfl)) ?_
              refine tb_float (i := 5) rfl (by kernel_rfl) rfl (wants_none rfl) (yq_of (y_fieldAddr (td := 3) Tryd.underlying72 rfl rfl Tryd.sizeOf3 (o' := 0) rfl (fe_t rfl))) ?_
              refine tb_float (i := 6) rfl (by kernel_rfl) rfl (wants_none rfl) (yq_of (y_ldb 0 Tryd.isAgg3 (fe_t rfl) rfl rfl)) ?_
              refine tb_float (i := 7) rfl (by kernel_rfl) rfl (wants_none rfl) (yq_of (y_fieldAddr (td := 3) Tryd.underlying72 rfl rfl Tryd.sizeOf3 (o' := 1) rfl (fe_t rfl))) ?_
              refine tb_float (i := 8) rfl (by kernel_rfl) rfl (wants_none rfl) (yq_of (y_ldb 0 Tryd.isAgg3 (fe_t rfl) rfl rfl)) ?_
              refine tb_float (i := 9) rfl (by kernel_rfl) rfl (wants_none rfl) (yq_of ((fun {u0 u1} hx hb => y_build (is := [0, 1]) (vs := [u0, u1]) (cs := [u0, u1, .slice none 0 0, .int .i64 0, .int .i64 0, .int .i64 0, .int .i64 0, .int .i64 0, .int .i64 0, .slice none 0 0]) rfl hx hb) (fel_cons (fe_t rfl) (fel_cons (fe_t rfl) fel_nil)) (by kernel_rfl))) ?_
              refine tb_one1 (i := 10) rfl (by kernel_rfl) (by kernel_rfl) (wants_none rfl) (oj_slice1 Tryd.underlying127 Tryd.sizeOf131 Tryd.zeroValue131 (fe_t rfl) (by decide) rfl (fun b1 => ⟨fun w h => h.pick [1, 2, 3, 4, 5] _ rfl (by decide), ?_⟩))
              refine tb_one2 (i := 11) rfl (by kernel_rfl) (by kernel_rfl) (wants_none rfl) (oj_append (i := 2) (s := 10) (z := (.agg #[.int .i64 0, .int .i64 0, .slice none 0 0, .int .i64 0, .int .i64 0, .int .i64 0, .int .i64 0, .int .i64 0, .int .i64 0, .slice none 0 0])) (bytes := 112) Tryd.underlying127 (by kernel_rfl) (fe_t rfl) (fe_t rfl) rfl (rdl_blk 0 rfl) rfl (by decide) (by first | exact oneI | exact oneF (fun _ => rfl) | exact fun u hu => List.all_eq_true.1 (show List.all _ (fun x => x.oneCell') = true from rfl) u hu | (intro u hu; revert u hu; simp [Value.oneCell'])) (by decide) ⟨by omega, by decide⟩ (fun Aa1 ca1 hca1 => ⟨fun w h => h.pick [1, 3, 5] _ rfl (by decide), ?_⟩))
              refine tb_float (i := 12) rfl (by kernel_rfl) rfl (wants_none rfl) (yq_of (y_nilCheck (fe_t rfl))) ?_
              refine tb_float (i := 13) rfl (by kernel_rfl) rfl (wants_none rfl) (yq_of (y_fieldAddr (td := 127) Tryd.underlying129 rfl rfl Tryd.sizeOf127 (o' := 0) rfl (fe_t rfl))) ?_
              refine tb_one2 (i := 14) rfl (by kernel_rfl) (by kernel_rfl) (wants_none rfl) (oj_store1 4 Tryd.sizeOf127 (fe_t rfl) (fe_t rfl) rfl rfl rfl rfl (⟨fun w h => h.pick [1, 3, 5] _ rfl (by decide), ?_⟩))
              refine tb_done (by kernel_rfl) ?_
              refine tx_then ?_
              refine tr_seq ?_
              have hnew : newNd t k = ⟨n1 ns k, n2 ns k, none, 0, [], 0, none, 0, D.nil⟩ := by unfold newNd; rw [ht, trOf_u, trOf_w]
              refine tr_as (r' := vec 131 10 (.slice Aa1 (k + 1) ca1) (k + 1) ((l ++ [newNd t k]).flatMap cN)) 2 rfl (congrArg (vec _ _ _ _) (by rw [List.flatMap_append, hnew]; rfl)) ?_
              refine tr_as (r' := subs 3 1 (padK n (l ++ [newNd t k]))) 3 rfl (congrArg (subs _ _) (pad_app (by rw [hnew]; rfl) hBl (by omega)).symm) ?_
              generalize hlA : l ++ [newNd t k] = lA
              have hlAn : lA.length = k + 1 := by rw [← hlA, List.length_append, hBl]; rfl
              refine tr_region ?_
              refine tl_step rfl (oj_val (y_fieldAddr (td := 3) Tryd.underlying72 rfl rfl Tryd.sizeOf3 (o' := 0) rfl (fe_t rfl)) ?_)
              refine tl_step rfl (oj_val (y_ldb 1 Tryd.isAgg3 (fe_t rfl) rfl rfl) ?_)
              refine tl_step rfl (oj_val (y_geq (fe_t rfl) fe_c) ?_)
              refine tl_nil ?_
              refine tx_then ?_
              refine tr_condp (fe_t rfl) (fun hq7 => ?_) (fun hq8 => ?_)
              · try (exfalso; omega)
                all_goals
                  obtain ⟨p, hp⟩ : ∃ p : Nat, n1 ns k = p := ⟨(n1 ns k).toNat, by omega⟩
                  have hpk : p < k := by omega
                  have hup : t.u k = p := by rw [ht, trOf_u]; exact hp
                  have hBp : lA.getD p Nd.nil = l.getD p Nd.nil := by rw [← hlA, getD_app hBl, if_neg (by omega)]
                  have hSp := hB.2 p hpk
                  have hsb := sumTo_bd g (k := p) (n := k) (by omega)
                  have hsp : (lA.getD p Nd.nil).sum = t.sumTo k p := by rw [hBp]; exact hSp.sum
                  have hkl := kidsTo_len (t := t) (m := k) (k := p)
                  have hkp : (lA.getD p Nd.nil).ks.length ≤ 16 := by rw [hBp, hSp.ks, kI_len]; omega
                  refine tr_seq ?_
                  refine tb_draw 8 (sel _ [0, 1, 2, 3, 4, 5]) (fun w h => h.sel _ rfl (by decide)) rfl ?_
                  refine tb_float (i := 0) rfl (by kernel_rfl) rfl (wants_none rfl) (yq_of (y_move (fe_t rfl))) ?_
                  refine tb_float (i := 1) rfl (by kernel_rfl) rfl (wants_none rfl) (yq_of (y_nilCheck (fe_t rfl))) ?_
                  refine tb_float (i := 2) rfl (by kernel_rfl) rfl (wants_none rfl) (yq_of (y_fieldAddr (td := 127) Tryd.underlying129 rfl rfl Tryd.sizeOf127 (o' := 0) rfl (fe_t rfl))) ?_
                  refine tb_float (i := 3) rfl (by kernel_rfl) rfl (wants_none rfl) (yq_of (y_ldb 4 Tryd.isAgg127 (fe_t rfl) rfl rfl)) ?_
                  refine tb_float (i := 4) rfl (by kernel_rfl) rfl (wants_none rfl) (yq_of (y_fieldAddr (td := 3) Tryd.underlying72 rfl rfl Tryd.sizeOf3 (o' := 0) rfl (fe_t rfl))) ?_
                  refine tb_float (i := 5) rfl (by kernel_rfl) rfl (wants_none rfl) (yq_of (y_ldb 1 Tryd.isAgg3 (fe_t rfl) rfl rfl)) ?_
                  refine tb_float (i := 6) rfl (by kernel_rfl) rfl (wants_none rfl) (yq_of (y_index Tryd.underlying127 Tryd.sizeOf131 (fe_t rfl) (fe_i hp rfl) (rdl_vec 2 rfl) (by rw [flat_len hcN]; omega) (by decide) (by omega) rfl)) ?_
                  refine tb_float (i := 7) rfl (by kernel_rfl) rfl (wants_none rfl) (yq_of (y_assign (fe_t rfl))) ?_
                  refine tb_done (by kernel_rfl) ?_
                  refine tx_then ?_
                  refine tr_subOut 3 p rfl (pad_at (by omega)) ?_
                  have hbn : (Nd.kV (lA.getD p Nd.nil)).n ≤ 16 := by show (lA.getD p Nd.nil).ks.length ≤ 16; omega
                  refine tr_norm (L' := [_, _, _, _, _, _, _]) (fun w h => h.pick [0, 1, 2, 3, 4, 5, 6] _ rfl (by decide)) ?_
                  refine tb_draw1 18 [_, _, _, _, _, _] [_, _, _, _, _, _] (fun w h => h.pick [1, 2, 3, 4, 5, 6] _ rfl (by decide)) (fun w h => (h.weak (i := 2) rfl).pick [2, 0, 1, 3, 4, 5] _ rfl (by decide)) rfl ?_
                  refine tb_float (i := 0) rfl (by kernel_rfl) rfl (wants_none rfl) (yq_of (y_move (fe_t rfl))) ?_
                  refine tb_float (i := 1) rfl (by kernel_rfl) rfl (wants_none rfl) (yq_of (y_move (fe_t rfl))) ?_
                  refine tb_float (i := 2) rfl (by kernel_rfl) rfl (wants_none rfl) (yq_of (y_move (fe_t rfl))) ?_
                  refine tb_float (i := 3) rfl (by kernel_rfl) rfl (wants_none rfl) (yq_of (y_nilCheckR (fe_t rfl) (rch_w 0 rfl (by omega)))) ?_
                  refine tb_float (i := 4) rfl (by kernel_rfl) rfl (wants_none rfl) (yq_of (y_fieldAddrR (td := 39) Tryd.underlying131 rfl rfl Tryd.sizeOf39 rfl (fe_t rfl) (rch_w 0 rfl (by omega)))) ?_
                  refine tb_float1 (i := 5) rfl (by kernel_rfl) (by kernel_rfl) rfl (wants_none rfl) (yq_of (y_ld Tryd.isAgg39 (fe_t rfl) (rdl_vec 2 rfl) (flatG (d := Nd.nil) (i := 2) hcN (by omega) rfl))) ?_
                  refine tb_float (i := 6) rfl (by kernel_rfl) rfl (wants_none rfl) (yq_of (y_move (fe_t rfl))) ?_
                  refine tb_float (i := 9) rfl (by kernel_rfl) rfl (wants_none rfl) (yq_of (y_move (fe_t rfl))) ?_
                  refine tb_float (i := 10) rfl (by kernel_rfl) rfl (wants_none rfl) (yq_of (y_nilCheckR (fe_t rfl) (rch_w 0 rfl (by omega)))) ?_
                  refine tb_float (i := 11) rfl (by kernel_rfl) rfl (wants_none rfl) (yq_of (y_fieldAddrR (td := 3) Tryd.underlying131 rfl rfl Tryd.sizeOf3 rfl (fe_t rfl) (rch_w 0 rfl (by omega)))) ?_
                  refine tb_float1 (i := 12) rfl (by kernel_rfl) (by kernel_rfl) rfl (wants_none rfl) (yq_of (y_ld Tryd.isAgg3 (fe_t rfl) (rdl_vec 2 rfl) (flatG (d := Nd.nil) (i := 3) hcN (by omega) rfl))) ?_
                  refine tb_float (i := 13) rfl (by kernel_rfl) rfl (wants_none rfl) (yq_of (y_fieldAddr (td := 3) Tryd.underlying72 rfl rfl Tryd.sizeOf3 (o' := 1) rfl (fe_t rfl))) ?_
                  refine tb_float (i := 14) rfl (by kernel_rfl) rfl (wants_none rfl) (yq_of (y_ldb 2 Tryd.isAgg3 (fe_t rfl) rfl rfl)) ?_
                  refine tb_float (i := 15) rfl (by kernel_rfl) rfl (wants_none rfl) (yq_of (y_add (fe_t rfl) (fe_t rfl) (by omega))) ?_
                  refine tb_one1 (i := 7) rfl (by kernel_rfl) (by kernel_rfl) (wants_none rfl) (oj_slice1 Tryd.underlying39 Tryd.sizeOf3 Tryd.zeroValue3 (fe_t rfl) (by decide) rfl (fun b2 => ⟨fun w h => h.pick [2, 3, 4, 5, 6, 7] _ rfl (by decide), ?_⟩))
                  refine tb_one1 (i := 8) rfl (by kernel_rfl) (by kernel_rfl) (wants_none rfl) (oj_append (i := 1) (s := 1) (z := (.int .i64 0)) (bytes := 8) Tryd.underlying39 (by kernel_rfl) (fe_t rfl) (fe_t rfl) rfl (rdl_blk 0 rfl) rfl (by decide) (by first | exact oneI | exact oneF (fun _ => rfl) | exact fun u hu => List.all_eq_true.1 (show List.all _ (fun x => x.oneCell') = true from rfl) u hu | (intro u hu; revert u hu; simp [Value.oneCell'])) (by decide) ⟨by omega, by decide⟩ (fun Aa2 ca2 hca2 => ⟨fun w h => h.pick [2, 3, 4, 5, 6, 7] _ rfl (by decide), ?_⟩))
                  refine tb_float (i := 16) rfl (by kernel_rfl) rfl (wants_none rfl) (yq_of (y_nilCheckR (fe_t rfl) (rch_w 0 rfl (by omega)))) ?_
                  refine tb_float (i := 17) rfl (by kernel_rfl) rfl (wants_none rfl) (yq_of (y_fieldAddrR (td := 39) Tryd.underlying131 rfl rfl Tryd.sizeOf39 rfl (fe_t rfl) (rch_w 0 rfl (by omega)))) ?_
                  refine tb_one2 (i := 18) rfl (by kernel_rfl) (by kernel_rfl) (wants_none rfl) (oj_storeG (i := 4) Nd.nil (⟨(lA.getD p Nd.nil).up, (lA.getD p Nd.nil).w, Aa2, ca2, (lA.getD p Nd.nil).ks ++ [(k : Int)], (lA.getD p Nd.nil).sum, (lA.getD p Nd.nil).wA, (lA.getD p Nd.nil).wc, (lA.getD p Nd.nil).d⟩ : Nd) hcN Tryd.sizeOf39 (fe_t rfl) (fe_t rfl) rfl rfl rfl (by (try rw [List.length_set]); omega) rfl (by simp [cN, Nd.kV]) (⟨fun w h => (h.weak (i := 4) rfl).pick [4, 2, 3, 5, 6, 7] _ rfl (by decide), ?_⟩))
                  refine tb_float (i := 19) rfl (by kernel_rfl) rfl (wants_none rfl) (yq_of (y_nilCheckR (fe_t rfl) (rch_w 0 rfl (by omega)))) ?_
                  refine tb_float (i := 20) rfl (by kernel_rfl) rfl (wants_none rfl) (yq_of (y_fieldAddrR (td := 3) Tryd.underlying131 rfl rfl Tryd.sizeOf3 rfl (fe_t rfl) (rch_w 0 rfl (by omega)))) ?_
                  refine tb_one2 (i := 21) rfl (by kernel_rfl) (by kernel_rfl) (wants_none rfl) (oj_storeG (i := 4) Nd.nil (⟨(lA.getD p Nd.nil).up, (lA.getD p Nd.nil).w, Aa2, ca2, (lA.getD p Nd.nil).ks ++ [(k : Int)], (lA.getD p Nd.nil).sum + n2 ns k, (lA.getD p Nd.nil).wA, (lA.getD p Nd.nil).wc, (lA.getD p Nd.nil).d⟩ : Nd) hcN Tryd.sizeOf3 (fe_t rfl) (fe_t rfl) rfl rfl rfl (by (try rw [List.length_set]); omega) rfl (by rw [getD_set (by omega), if_pos rfl]; simp [cN]) (⟨fun w h => (h.weak (i := 4) rfl).pick [4, 2, 3, 5, 6, 7] _ rfl (by decide), ?_⟩))
                  refine tb_done (by kernel_rfl) ?_
                  refine tx_in ?_
                  refine tx_then ?_
                  rw [List.set_set]
                  refine tr_subInJ 1 5 p rfl rfl rfl (pad_nil_at (by omega)) (pad_back (x := (⟨(lA.getD p Nd.nil).up, (lA.getD p Nd.nil).w, Aa2, ca2, (lA.getD p Nd.nil).ks ++ [(k : Int)], (lA.getD p Nd.nil).sum + n2 ns k, (lA.getD p Nd.nil).wA, (lA.getD p Nd.nil).wc, (lA.getD p Nd.nil).d⟩ : Nd)) (by omega) (by simp [Nd.kV, cI, zc])) ?_
                  generalize hl1 : lA.set p (⟨(lA.getD p Nd.nil).up, (lA.getD p Nd.nil).w, Aa2, ca2, (lA.getD p Nd.nil).ks ++ [(k : Int)], (lA.getD p Nd.nil).sum + n2 ns k, (lA.getD p Nd.nil).wA, (lA.getD p Nd.nil).wc, (lA.getD p Nd.nil).d⟩ : Nd) = l1
                  have hB1 : Bld t (k + 1) l1 := hB.set g hkn hup (by rw [hlA]; exact hl1) (by rw [hlA]) (by rw [hlA]) (by rw [hlA]) (by rw [hlA, ht, trOf_w]) (by rw [hlA]) (by rw [hlA]; rfl)
                  refine tr_region ?_
                  refine tl_step rfl (oj_val (y_inc (fe_t rfl) fe_c (by omega)) ?_)
                  refine tl_step rfl (oj_val (y_move (fe_t rfl)) ?_)
                  refine tl_nil ?_
                  apply tx_back4 (k + 1) (l1) (_) (_)
                  · exact (cov_cons (by first | rfl | exact v_int (by omega) | exact v_int (by dsimp only; omega)) (cov_nil))
                  · repeat (first | exact over_nil | refine over_put rfl ?_ | refine over_drop rfl ?_)
                  · exact fun w h => h.pick [4, 5, 6, 7] _ rfl (by decide)
                  · exact ⟨⟨by omega, hB1⟩, by omega⟩
              · try (exfalso; omega)
                all_goals
                  refine tr_skip ?_
                  refine tx_in ?_
                  refine tx_then ?_
                  have hB1 : Bld t (k + 1) lA := by rw [← hlA]; exact hB.app g hkn (by rw [ht, trOf_u]; omega)
                  refine tr_region ?_
                  refine tl_step rfl (oj_val (y_inc (fe_t rfl) fe_c (by omega)) ?_)
                  refine tl_step rfl (oj_val (y_move (fe_t rfl)) ?_)
                  refine tl_nil ?_
                  apply tx_back4 (k + 1) (lA) (_) (_)
                  · exact (cov_cons (by first | rfl | exact v_int (by omega) | exact v_int (by dsimp only; omega)) (cov_nil))
                  · repeat (first | exact over_nil | refine over_put rfl ?_ | refine over_drop rfl ?_)
                  · exact fun w h => h.pick [2, 3, 4, 5] _ rfl (by decide)
                  · exact ⟨⟨by omega, hB1⟩, by omega⟩
          · try (exfalso; omega)
            all_goals
              refine tr_exit ?_
              refine tx_then_exit ?_
              refine tx_then_exit ?_
              refine tx_in_exit ?_
              refine tx_then ?_
              refine tr_seq ?_
              obtain rfl : n = k := by omega
              have hst0 : Stat t l := Bld.stat (by rw [htn]; exact hB)
              have hlln : l.length = n := hBl
              refine tr_as (r' := subs 3 1 (l.map Nd.kV)) 1 rfl (congrArg (subs _ _) (pad_all hlln)) ?_
              refine tr_add (r := subs 3 1 (l.map Nd.wV)) (by rw [hB.wV]; exact subs_nils) (by rw [hB.wV]; exact subs_nils_foot) ?_
              refine tr_region ?_
              refine tl_step rfl (oj_val (y_assign fe_c) ?_)
              refine tl_nil ?_
              refine tx_then ?_
              refine tr_seq ?_
              refine tr_region ?_
              refine tl_step rfl (oj_val (y_assign fe_c) ?_)
              refine tl_nil ?_
              refine tx_then ?_
              refine tr_seq ?_
              refine tr_seq ?_
              refine tr_region ?_
              refine tl_step rfl (oj_val (y_move (fe_t rfl)) ?_)
              refine tl_step rfl (oj_val (y_len Tryd.underlying68 (fe_t rfl)) ?_)
              refine tl_step rfl (oj_val (y_move fe_c) ?_)
              refine tl_nil ?_
              refine tx_then ?_
              refine tr_block ?_
              refine tr_add (r := vec 25 1 (.slice none 0 0) 0 []) vec_nil rfl ?_
              refine tr_add (r := vec 81 2 (.slice none 0 0) 0 []) vec_nil rfl ?_
              refine tr_loop5 [14, 15, 17, 18, 19, 20, 91, 92, 93, 94, 95, 96, 97, 98, 99, 100, 101, 102, 103, 104, 105, 106, 107, 108, 109, 110, 111, 112, 113, 114, 115, 116, 117, 118, 119, 120, 121, 122, 123, 124, 125, 126, 127, 128, 129, 130, 131, 132, 133, 134, 135, 136, 137, 138, 139, 140, 141, 142, 143] (fun (i : Nat) (s : S) (l : List Nd) (e1 : Vs) (s1 : Vs) => [(91, .int .i64 (i : Int)), (14, .slice e1.A e1.n e1.c), (15, .slice s1.A s1.n s1.c)]) 0 (fun (i : Nat) (s : S) (l : List Nd) (e1 : Vs) (s1 : Vs) => [(3, vec 131 10 (.slice G n cg) n (l.flatMap cN)), (4, subs 3 1 (l.map Nd.kV)), (2, subs 3 1 (l.map Nd.wV)), (1, vec 25 1 (.slice e1.A e1.n e1.c) e1.n e1.xs), (0, vec 81 2 (.slice s1.A s1.n s1.c) s1.n s1.xs)]) (fun (i : Nat) (s : S) (l : List Nd) (e1 : Vs) (s1 : Vs) => i ≤ m ∧ Run t os i s ∧ l.length = t.n ∧ l.map Nd.d = s.ds ∧ Stat t l ∧ (e1.n = s.errs.length ∧ e1.xs = cI s.errs) ∧ s1.n = s.sent.length ∧ s1.xs = s.sent.flatMap c2) (fun (i : Nat) (s : S) (l : List Nd) (e1 : Vs) (s1 : Vs) => m - i) (0) (⟨List.replicate t.n D.nil, [], []⟩) (_) (⟨none, 0, 0, []⟩ : Vs) (⟨none, 0, 0, []⟩ : Vs) (cov_cons (by first | rfl | exact v_int (by omega) | exact v_int (by dsimp only; omega)) (cov_cons (by first | rfl | exact v_int (by omega) | exact v_int (by dsimp only; omega)) (cov_cons (by first | rfl | exact v_int (by omega) | exact v_int (by dsimp only; omega)) (cov_nil)))) (fun w h => h) ?_ ?_
              · try dsimp only
                exact ⟨by omega, rfl, by omega, hB.d.trans (by rw [htn]), hst0, ⟨rfl, rfl⟩, rfl, rfl⟩
              intro i s l e1 s1 hp
              obtain ⟨hi, hrun, hll, hq, hst, ⟨hen, hex⟩, hsn, hsx⟩ := hp
              have hwf := run_wf g hrun
              have hel := hwf.errs
              have hsl := hwf.sent
              have hcw : ∀ k, (l.getD k Nd.nil).d.ws.length ≤ i := fun k => by rw [← ndq hq]; exact hwf.cnt k
              refine tr_seq ?_
              refine tr_region ?_
              refine tl_step rfl (oj_val (y_lss (fe_t rfl) (fe_t rfl)) ?_)
              refine tl_nil ?_
              refine tx_then ?_
              refine tr_seq ?_
              refine tr_condp (fe_t rfl) (fun hq9 => ?_) (fun hq10 => ?_)
              · try (exfalso; omega)
                all_goals
                  refine tr_skip ?_
                  refine tx_then ?_
                  refine tr_seq ?_
                  refine tr_block ?_
                  refine tr_seq ?_
                  refine tr_region ?_
                  refine tl_step rfl (oj_val (y_index Tryd.underlying68 Tryd.sizeOf75 (fe_t rfl) (fe_t rfl) (rdl_out hr2) (lenO hn2) (by decide) (by omega) rfl) ?_)
                  refine tl_step rfl (oj_val (y_ldA (cs := [(.int .i64 (o1 os i)), (.int .i64 (o2 os i)), (.int .i64 (o3 os i))]) Tryd.isAgg75 Tryd.sizeOf75 (fe_t rfl) (rdl_out hr2) rfl (by decide) (getO (by omega))) ?_)
                  refine tl_step rfl (oj_alloc Tryd.zeroValue75 (fun bo => ?_))
                  refine tl_step rfl (oj_storeW 0 Tryd.sizeOf75 (fe_t rfl) (fe_t rfl) rfl rfl rfl rfl rfl (?_))
                  refine tl_nil ?_
                  refine tx_then ?_
                  refine tr_seq ?_
                  refine tr_region ?_
                  refine tl_step rfl (oj_val (y_assign fe_c) ?_)
                  refine tl_nil ?_
                  refine tx_then ?_
                  refine tr_seq ?_
                  refine tr_block ?_
                  refine tr_seq ?_
                  refine tr_region ?_
                  refine tl_step rfl (oj_val (y_fieldAddr (td := 3) Tryd.underlying75 rfl rfl Tryd.sizeOf3 (o' := 0) rfl (fe_t rfl)) ?_)
                  refine tl_step rfl (oj_val (y_ldb 0 Tryd.isAgg3 (fe_t rfl) rfl rfl) ?_)
                  refine tl_step rfl (oj_val (y_neq (fe_t rfl) fe_c) ?_)
                  refine tl_step rfl (oj_val (y_move (fe_t rfl)) ?_)
                  refine tl_splitp (d := 105) rfl (fun hq11 => ?_) (fun hq12 => ?_)
                  · try (exfalso; omega)
                    all_goals
                      refine tl_want rfl rfl rfl (oj_val (y_fieldAddr (td := 3) Tryd.underlying75 rfl rfl Tryd.sizeOf3 (o' := 0) rfl (fe_t rfl)) ?_)
                      refine tl_want rfl rfl rfl (oj_val (y_ldb 0 Tryd.isAgg3 (fe_t rfl) rfl rfl) ?_)
                      refine tl_want rfl rfl rfl (oj_val (y_neq (fe_t rfl) fe_c) ?_)
                      refine tl_step rfl (oj_val (y_pickt (fe_t rfl) (fe_t rfl)) ?_)
                      refine tl_step rfl (oj_val (y_assign (fe_t rfl)) ?_)
                      refine tl_nil ?_
                      refine tx_then ?_
                      refine tr_condp (fe_t rfl) (fun hq13 => ?_) (fun hq14 => ?_)
                      · try (exfalso; omega)
                        all_goals
                          refine tr_region ?_
                          refine tl_step rfl (oj_val (y_assign fe_c) ?_)
                          refine tl_nil ?_
                          refine tx_in ?_
                          refine tx_then ?_
                          refine tr_region ?_
                          refine tl_step rfl (oj_val (y_move (fe_t rfl)) ?_)
                          refine tl_step rfl (oj_val (y_move (fe_t rfl)) ?_)
                          refine tl_step rfl (oj_slice1 Tryd.underlying76 Tryd.sizeOf25 Tryd.zeroValue25 (fe_t rfl) (by decide) rfl (fun b3 => ?_))
                          refine tl_step rfl (oj_append (i := 3) (s := 1) (z := (.int .i64 0)) (bytes := 8) Tryd.underlying76 (by kernel_rfl) (fe_t rfl) (fe_t rfl) rfl (rdl_blk 0 rfl) rfl (by decide) (by first | exact oneI | exact oneF (fun _ => rfl) | exact fun u hu => List.all_eq_true.1 (show List.all _ (fun x => x.oneCell') = true from rfl) u hu | (intro u hu; revert u hu; simp [Value.oneCell'])) (by decide) ⟨by omega, by decide⟩ (fun Aa3 ca3 hca3 => ?_))
                          refine tl_step rfl (oj_val (y_assign (fe_t rfl)) ?_)
                          refine tl_nil ?_
                          refine tx_in ?_
                          refine tx_then ?_
                          refine tr_region ?_
                          refine tl_step rfl (oj_val (y_inc (fe_t rfl) fe_c (by omega)) ?_)
                          refine tl_step rfl (oj_val (y_move (fe_t rfl)) ?_)
                          refine tl_nil ?_
                          apply tx_back5 (i + 1) ({ s with errs := s.errs ++ [5] }) (_) ((⟨_, _, _, _⟩ : Vs)) ((⟨_, _, _, _⟩ : Vs))
                          · exact (cov_cons (by first | rfl | exact v_int (by omega) | exact v_int (by dsimp only; omega)) (cov_cons (by first | rfl | exact v_int (by omega) | exact v_int (by dsimp only; omega)) (cov_cons (by first | rfl | exact v_int (by omega) | exact v_int (by dsimp only; omega)) (cov_nil))))
                          · repeat (first | exact over_nil | refine over_put rfl ?_ | refine over_drop rfl ?_)
                          · exact fun w h => h.pick [2, 3, 4, 5, 6, 7, 8] _ rfl (by decide)
                          · exact ⟨⟨by omega, ⟨s, hrun, .kind (by show o1 os i ≠ 1; omega) (by show o1 os i ≠ 2; omega)⟩, hll, hq, hst, ⟨by simp; omega, by dsimp only; rw [hex, cI, cI, List.map_append]; rfl⟩, hsn, hsx⟩, by omega⟩
                      · try (exfalso; omega)
                        all_goals
                          refine tr_seq ?_
                          refine tr_region ?_
                          refine tl_step rfl (oj_val (y_fieldAddr (td := 3) Tryd.underlying75 rfl rfl Tryd.sizeOf3 (o' := 0) rfl (fe_t rfl)) ?_)
                          refine tl_step rfl (oj_val (y_ldb 0 Tryd.isAgg3 (fe_t rfl) rfl rfl) ?_)
                          refine tl_step rfl (oj_val (y_eq (fe_t rfl) fe_c) ?_)
                          refine tl_step rfl (oj_val (y_assign (fe_t rfl)) ?_)
                          refine tl_nil ?_
                          refine tx_then ?_
                          refine tr_condp (fe_t rfl) (fun hq15 => ?_) (fun hq16 => ?_)
                          · try (exfalso; omega)
                            all_goals
                              refine tr_seq ?_
                              refine tr_region ?_
                              refine tl_step rfl (oj_val (y_move (fe_t rfl)) ?_)
                              refine tl_step rfl (oj_call2 Tryd.call56 fe_f (fel_cons (fe_t rfl) fel_nil) (fun w' hS => outE (hS.pick [6, 4, 5, 3, 0, 1, 2, 7] [_, _, _, _, _, _, _, _] rfl (by decide)) g htn hll hq hst hwf.bd (by omega) hwf.ok (fun k => by have := hcw k; omega)) (fun r1 hX => ?_))
                              refine tl_step rfl (oj_val (y_move (fe_t rfl)) ?_)
                              refine tl_step rfl (oj_val (y_extract (fe_t rfl) rfl) ?_)
                              refine tl_step rfl (oj_val (y_extract (fe_t rfl) rfl) ?_)
                              refine tl_step rfl (oj_alloc Tryd.zeroValue81 (fun bs => ?_))
                              refine tl_step rfl (oj_storeW 0 Tryd.sizeOf81 (fe_t rfl) (fe_t rfl) rfl rfl rfl rfl rfl (?_))
                              refine tl_step rfl (oj_val (y_assign (fe_t rfl)) ?_)
                              refine tl_nil ?_
                              refine tx_then ?_
                              refine tr_seq ?_
                              refine tr_region ?_
                              refine tl_step rfl (oj_val (y_move (fe_t rfl)) ?_)
                              refine tl_nil ?_
                              refine tx_then ?_
                              refine tr_cond (fe_t rfl) (fun hq17 => ?_) (fun hq18 => ?_)
                              · try (exfalso; omega)
                                all_goals
                                  obtain ⟨e5, e6, e7, e8⟩ : ¬ (dn s.ds 0).bytes = 0 ∧ r1.2.1 = (dn s.ds 0).leaf ∧ r1.2.2.1 = (dn s.ds 0).bytes ∧ r1.2.2.2.map Nd.d = outF t s.ds := by
                                    rcases hX.2.2 with ⟨h, _⟩ | ⟨_, h⟩
                                    · rw [hq17] at h; cases h
                                    · exact h
                                  have e1 := hX.1
                                  have e2 := hX.2.1
                                  clear hX
                                  rw [e6, e7]
                                  refine tr_region ?_
                                  refine tl_step rfl (oj_val (y_move (fe_t rfl)) ?_)
                                  refine tl_step rfl (oj_val (y_ldbA 0 Tryd.isAgg81 Tryd.sizeOf81 (fe_t rfl) rfl rfl rfl) ?_)
                                  refine tl_step rfl (oj_slice1 Tryd.underlying77 Tryd.sizeOf81 Tryd.zeroValue81 (fe_t rfl) (by decide) rfl (fun b4 => ?_))
                                  refine tl_step rfl (oj_append (i := 7) (s := 2) (z := (.agg #[.int .i64 0, .int .i64 0])) (bytes := 16) Tryd.underlying77 (by kernel_rfl) (fe_t rfl) (fe_t rfl) rfl (rdl_blk 0 rfl) rfl (by decide) (by first | exact oneI | exact oneF (fun _ => rfl) | exact fun u hu => List.all_eq_true.1 (show List.all _ (fun x => x.oneCell') = true from rfl) u hu | (intro u hu; revert u hu; simp [Value.oneCell'])) (by decide) ⟨by omega, by decide⟩ (fun Aa4 ca4 hca4 => ?_))
                                  refine tl_step rfl (oj_val (y_assign (fe_t rfl)) ?_)
                                  refine tl_nil ?_
                                  refine tx_in ?_
                                  refine tx_then ?_
                                  refine tr_region ?_
                                  refine tl_step rfl (oj_val (y_move (fe_t rfl)) ?_)
                                  refine tl_step rfl (oj_val (y_move (fe_t rfl)) ?_)
                                  refine tl_step rfl (oj_slice1 Tryd.underlying76 Tryd.sizeOf25 Tryd.zeroValue25 (fe_t rfl) (by decide) rfl (fun b5 => ?_))
                                  refine tl_step rfl (oj_append (i := 9) (s := 1) (z := (.int .i64 0)) (bytes := 8) Tryd.underlying76 (by kernel_rfl) (fe_t rfl) (fe_t rfl) rfl (rdl_blk 0 rfl) rfl (by decide) (by first | exact oneI | exact oneF (fun _ => rfl) | exact fun u hu => List.all_eq_true.1 (show List.all _ (fun x => x.oneCell') = true from rfl) u hu | (intro u hu; revert u hu; simp [Value.oneCell'])) (by decide) ⟨by omega, by decide⟩ (fun Aa5 ca5 hca5 => ?_))
                                  refine tl_step rfl (oj_val (y_assign (fe_t rfl)) ?_)
                                  refine tl_nil ?_
                                  refine tx_in ?_
                                  refine tx_then ?_
                                  refine tr_region ?_
                                  refine tl_step rfl (oj_val (y_inc (fe_t rfl) fe_c (by omega)) ?_)
                                  refine tl_step rfl (oj_val (y_move (fe_t rfl)) ?_)
                                  refine tl_nil ?_
                                  apply tx_back5 (i + 1) (⟨outF t s.ds, s.errs ++ [0], s.sent ++ [((dn s.ds 0).leaf, (dn s.ds 0).bytes)]⟩) (_) ((⟨_, _, _, _⟩ : Vs)) ((⟨_, _, _, _⟩ : Vs))
                                  · exact (cov_cons (by first | rfl | exact v_int (by omega) | exact v_int (by dsimp only; omega)) (cov_cons (by first | rfl | exact v_int (by omega) | exact v_int (by dsimp only; omega)) (cov_cons (by first | rfl | exact v_int (by omega) | exact v_int (by dsimp only; omega)) (cov_nil))))
                                  · repeat (first | exact over_nil | refine over_put rfl ?_ | refine over_drop rfl ?_)
                                  · exact fun w h => h.pick [8, 9, 6, 4, 5, 3, 10] _ rfl (by decide)
                                  · exact ⟨⟨by omega, ⟨s, hrun, .out (by show o1 os i = 2; omega) e5⟩, e1, e8, e2, ⟨by simp; omega, by dsimp only; rw [hex, cI, cI, List.map_append]; rfl⟩, by simp; omega, by dsimp only; rw [hsx, List.flatMap_append]; rfl⟩, by omega⟩
                              · try (exfalso; omega)
                                all_goals
                                  obtain ⟨e5, e6⟩ : (dn s.ds 0).bytes = 0 ∧ r1.2.2.2.map Nd.d = s.ds := by
                                    rcases hX.2.2 with ⟨_, h⟩ | ⟨h, _⟩
                                    · exact h
                                    · rw [hq18] at h; cases h
                                  have e1 := hX.1
                                  have e2 := hX.2.1
                                  clear hX
                                  refine tr_region ?_
                                  refine tl_step rfl (oj_val (y_assign fe_c) ?_)
                                  refine tl_nil ?_
                                  refine tx_in ?_
                                  refine tx_then ?_
                                  refine tr_region ?_
                                  refine tl_step rfl (oj_val (y_move (fe_t rfl)) ?_)
                                  refine tl_step rfl (oj_val (y_move (fe_t rfl)) ?_)
                                  refine tl_step rfl (oj_slice1 Tryd.underlying76 Tryd.sizeOf25 Tryd.zeroValue25 (fe_t rfl) (by decide) rfl (fun b6 => ?_))
                                  refine tl_step rfl (oj_append (i := 8) (s := 1) (z := (.int .i64 0)) (bytes := 8) Tryd.underlying76 (by kernel_rfl) (fe_t rfl) (fe_t rfl) rfl (rdl_blk 0 rfl) rfl (by decide) (by first | exact oneI | exact oneF (fun _ => rfl) | exact fun u hu => List.all_eq_true.1 (show List.all _ (fun x => x.oneCell') = true from rfl) u hu | (intro u hu; revert u hu; simp [Value.oneCell'])) (by decide) ⟨by omega, by decide⟩ (fun Aa6 ca6 hca6 => ?_))
                                  refine tl_step rfl (oj_val (y_assign (fe_t rfl)) ?_)
                                  refine tl_nil ?_
                                  refine tx_in ?_
                                  refine tx_then ?_
                                  refine tr_region ?_
                                  refine tl_step rfl (oj_val (y_inc (fe_t rfl) fe_c (by omega)) ?_)
                                  refine tl_step rfl (oj_val (y_move (fe_t rfl)) ?_)
                                  refine tl_nil ?_
                                  apply tx_back5 (i + 1) ({ s with errs := s.errs ++ [3] }) (_) ((⟨_, _, _, _⟩ : Vs)) ((⟨_, _, _, _⟩ : Vs))
                                  · exact (cov_cons (by first | rfl | exact v_int (by omega) | exact v_int (by dsimp only; omega)) (cov_cons (by first | rfl | exact v_int (by omega) | exact v_int (by dsimp only; omega)) (cov_cons (by first | rfl | exact v_int (by omega) | exact v_int (by dsimp only; omega)) (cov_nil))))
                                  · repeat (first | exact over_nil | refine over_put rfl ?_ | refine over_drop rfl ?_)
                                  · exact fun w h => h.pick [7, 8, 5, 3, 4, 2, 9] _ rfl (by decide)
                                  · exact ⟨⟨by omega, ⟨s, hrun, .nought (by show o1 os i = 2; omega) e5⟩, e1, e6, e2, ⟨by simp; omega, by dsimp only; rw [hex, cI, cI, List.map_append]; rfl⟩, hsn, hsx⟩, by omega⟩
                          · exfalso; omega
                  · try (exfalso; omega)
                    all_goals
                      refine tl_skip rfl rfl rfl rfl ?_
                      refine tl_skip rfl rfl rfl rfl ?_
                      refine tl_skip rfl rfl rfl rfl ?_
                      refine tl_step rfl (oj_val (y_pickf (fe_t rfl) fe_c) ?_)
                      refine tl_step rfl (oj_val (y_assign (fe_t rfl)) ?_)
                      refine tl_nil ?_
                      refine tx_then ?_
                      refine tr_condf (fe_t rfl) ?_
                      refine tr_seq ?_
                      refine tr_region ?_
                      refine tl_step rfl (oj_val (y_fieldAddr (td := 3) Tryd.underlying75 rfl rfl Tryd.sizeOf3 (o' := 0) rfl (fe_t rfl)) ?_)
                      refine tl_step rfl (oj_val (y_ldb 0 Tryd.isAgg3 (fe_t rfl) rfl rfl) ?_)
                      refine tl_step rfl (oj_val (y_eq (fe_t rfl) fe_c) ?_)
                      refine tl_step rfl (oj_val (y_assign (fe_t rfl)) ?_)
                      refine tl_nil ?_
                      refine tx_then ?_
                      refine tr_condp (fe_t rfl) (fun hq19 => ?_) (fun hq20 => ?_)
                      · exfalso; omega
                      · try (exfalso; omega)
                        all_goals
                          refine tr_seq ?_
                          refine tr_region ?_
                          refine tl_step rfl (oj_val (y_move (fe_t rfl)) ?_)
                          refine tl_step rfl (oj_val (y_fieldAddr (td := 3) Tryd.underlying75 rfl rfl Tryd.sizeOf3 (o' := 1) rfl (fe_t rfl)) ?_)
                          refine tl_step rfl (oj_val (y_ldb 0 Tryd.isAgg3 (fe_t rfl) rfl rfl) ?_)
                          refine tl_step rfl (oj_callv Tryd.call57 fe_f (fel_cons (fe_t rfl) (fel_cons (fe_t rfl) fel_nil)) (fun w' hS => contV h0v w' (hS.holds 7 _ rfl) (by rw [kI_len]; omega)) ?_)
                          refine tl_step rfl (oj_val (y_notp (fe_t rfl)) ?_)
                          refine tl_step rfl (oj_val (y_assign (fe_t rfl)) ?_)
                          refine tl_nil ?_
                          refine tx_then ?_
                          refine tr_condp (fe_t rfl) (fun hq21 => ?_) (fun hq22 => ?_)
                          · try (exfalso; omega)
                            all_goals
                              have hlm := leaf_mem (t := t) (x := o2 os i)
                              rw [htn, ht] at hlm
                              have hnl : ¬ t.leaf (o2 os i) := fun h0 => absurd (hlm.2 (by rw [← ht]; exact h0)) hq21
                              refine tr_region ?_
                              refine tl_step rfl (oj_val (y_assign fe_c) ?_)
                              refine tl_nil ?_
                              refine tx_in ?_
                              refine tx_then ?_
                              refine tr_region ?_
                              refine tl_step rfl (oj_val (y_move (fe_t rfl)) ?_)
                              refine tl_step rfl (oj_val (y_move (fe_t rfl)) ?_)
                              refine tl_step rfl (oj_slice1 Tryd.underlying76 Tryd.sizeOf25 Tryd.zeroValue25 (fe_t rfl) (by decide) rfl (fun b7 => ?_))
                              refine tl_step rfl (oj_append (i := 3) (s := 1) (z := (.int .i64 0)) (bytes := 8) Tryd.underlying76 (by kernel_rfl) (fe_t rfl) (fe_t rfl) rfl (rdl_blk 0 rfl) rfl (by decide) (by first | exact oneI | exact oneF (fun _ => rfl) | exact fun u hu => List.all_eq_true.1 (show List.all _ (fun x => x.oneCell') = true from rfl) u hu | (intro u hu; revert u hu; simp [Value.oneCell'])) (by decide) ⟨by omega, by decide⟩ (fun Aa7 ca7 hca7 => ?_))
                              refine tl_step rfl (oj_val (y_assign (fe_t rfl)) ?_)
                              refine tl_nil ?_
                              refine tx_in ?_
                              refine tx_then ?_
                              refine tr_region ?_
                              refine tl_step rfl (oj_val (y_inc (fe_t rfl) fe_c (by omega)) ?_)
                              refine tl_step rfl (oj_val (y_move (fe_t rfl)) ?_)
                              refine tl_nil ?_
                              apply tx_back5 (i + 1) ({ s with errs := s.errs ++ [3] }) (_) ((⟨_, _, _, _⟩ : Vs)) ((⟨_, _, _, _⟩ : Vs))
                              · exact (cov_cons (by first | rfl | exact v_int (by omega) | exact v_int (by dsimp only; omega)) (cov_cons (by first | rfl | exact v_int (by omega) | exact v_int (by dsimp only; omega)) (cov_cons (by first | rfl | exact v_int (by omega) | exact v_int (by dsimp only; omega)) (cov_nil))))
                              · repeat (first | exact over_nil | refine over_put rfl ?_ | refine over_drop rfl ?_)
                              · exact fun w h => h.pick [2, 3, 4, 5, 6, 7, 8] _ rfl (by decide)
                              · exact ⟨⟨by omega, ⟨s, hrun, .none (by show o1 os i = 1; omega) hnl⟩, hll, hq, hst, ⟨by simp; omega, by dsimp only; rw [hex, cI, cI, List.map_append]; rfl⟩, hsn, hsx⟩, by omega⟩
                          · try (exfalso; omega)
                            all_goals
                              have hlm := leaf_mem (t := t) (x := o2 os i)
                              rw [htn, ht] at hlm
                              have hlf : t.leaf (o2 os i) := by rw [ht]; exact hlm.1 (Classical.not_not.1 hq22)
                              refine tr_seq ?_
                              refine tr_region ?_
                              refine tl_step rfl (oj_val (y_fieldAddr (td := 3) Tryd.underlying75 rfl rfl Tryd.sizeOf3 (o' := 2) rfl (fe_t rfl)) ?_)
                              refine tl_step rfl (oj_val (y_ldb 0 Tryd.isAgg3 (fe_t rfl) rfl rfl) ?_)
                              refine tl_step rfl (oj_val (y_lss (fe_t rfl) fe_c) ?_)
                              refine tl_step rfl (oj_val (y_move (fe_t rfl)) ?_)
                              refine tl_splitp (d := 134) rfl (fun hq23 => ?_) (fun hq24 => ?_)
                              · try (exfalso; omega)
                                all_goals
                                  refine tl_skip rfl rfl rfl rfl ?_
                                  refine tl_skip rfl rfl rfl rfl ?_
                                  refine tl_skip rfl rfl rfl rfl ?_
                                  refine tl_step rfl (oj_val (y_pickt (fe_t rfl) fe_c) ?_)
                                  refine tl_step rfl (oj_val (y_assign (fe_t rfl)) ?_)
                                  refine tl_nil ?_
                                  refine tx_then ?_
                                  refine tr_condt (fe_t rfl) ?_
                                  refine tr_region ?_
                                  refine tl_step rfl (oj_val (y_assign fe_c) ?_)
                                  refine tl_nil ?_
                                  refine tx_in ?_
                                  refine tx_then ?_
                                  refine tr_region ?_
                                  refine tl_step rfl (oj_val (y_move (fe_t rfl)) ?_)
                                  refine tl_step rfl (oj_val (y_move (fe_t rfl)) ?_)
                                  refine tl_step rfl (oj_slice1 Tryd.underlying76 Tryd.sizeOf25 Tryd.zeroValue25 (fe_t rfl) (by decide) rfl (fun b8 => ?_))
                                  refine tl_step rfl (oj_append (i := 3) (s := 1) (z := (.int .i64 0)) (bytes := 8) Tryd.underlying76 (by kernel_rfl) (fe_t rfl) (fe_t rfl) rfl (rdl_blk 0 rfl) rfl (by decide) (by first | exact oneI | exact oneF (fun _ => rfl) | exact fun u hu => List.all_eq_true.1 (show List.all _ (fun x => x.oneCell') = true from rfl) u hu | (intro u hu; revert u hu; simp [Value.oneCell'])) (by decide) ⟨by omega, by decide⟩ (fun Aa8 ca8 hca8 => ?_))
                                  refine tl_step rfl (oj_val (y_assign (fe_t rfl)) ?_)
                                  refine tl_nil ?_
                                  refine tx_in ?_
                                  refine tx_then ?_
                                  refine tr_region ?_
                                  refine tl_step rfl (oj_val (y_inc (fe_t rfl) fe_c (by omega)) ?_)
                                  refine tl_step rfl (oj_val (y_move (fe_t rfl)) ?_)
                                  refine tl_nil ?_
                                  apply tx_back5 (i + 1) ({ s with errs := s.errs ++ [2] }) (_) ((⟨_, _, _, _⟩ : Vs)) ((⟨_, _, _, _⟩ : Vs))
                                  · exact (cov_cons (by first | rfl | exact v_int (by omega) | exact v_int (by dsimp only; omega)) (cov_cons (by first | rfl | exact v_int (by omega) | exact v_int (by dsimp only; omega)) (cov_cons (by first | rfl | exact v_int (by omega) | exact v_int (by dsimp only; omega)) (cov_nil))))
                                  · repeat (first | exact over_nil | refine over_put rfl ?_ | refine over_drop rfl ?_)
                                  · exact fun w h => h.pick [2, 3, 4, 5, 6, 7, 8] _ rfl (by decide)
                                  · exact ⟨⟨by omega, ⟨s, hrun, .range (by show o1 os i = 1; omega) hlf (by show o3 os i < 1 ∨ 1500 < o3 os i; omega)⟩, hll, hq, hst, ⟨by simp; omega, by dsimp only; rw [hex, cI, cI, List.map_append]; rfl⟩, hsn, hsx⟩, by omega⟩
                              · try (exfalso; omega)
                                all_goals
                                  refine tl_want rfl rfl rfl (oj_val (y_fieldAddr (td := 3) Tryd.underlying75 rfl rfl Tryd.sizeOf3 (o' := 2) rfl (fe_t rfl)) ?_)
                                  refine tl_want rfl rfl rfl (oj_val (y_ldb 0 Tryd.isAgg3 (fe_t rfl) rfl rfl) ?_)
                                  refine tl_want rfl rfl rfl (oj_val (y_gtr (fe_t rfl) fe_c) ?_)
                                  refine tl_step rfl (oj_val (y_pickf (fe_t rfl) (fe_t rfl)) ?_)
                                  refine tl_step rfl (oj_val (y_assign (fe_t rfl)) ?_)
                                  refine tl_nil ?_
                                  refine tx_then ?_
                                  refine tr_condp (fe_t rfl) (fun hq25 => ?_) (fun hq26 => ?_)
                                  · try (exfalso; omega)
                                    all_goals
                                      refine tr_region ?_
                                      refine tl_step rfl (oj_val (y_assign fe_c) ?_)
                                      refine tl_nil ?_
                                      refine tx_in ?_
                                      refine tx_then ?_
                                      refine tr_region ?_
                                      refine tl_step rfl (oj_val (y_move (fe_t rfl)) ?_)
                                      refine tl_step rfl (oj_val (y_move (fe_t rfl)) ?_)
                                      refine tl_step rfl (oj_slice1 Tryd.underlying76 Tryd.sizeOf25 Tryd.zeroValue25 (fe_t rfl) (by decide) rfl (fun b9 => ?_))
                                      refine tl_step rfl (oj_append (i := 3) (s := 1) (z := (.int .i64 0)) (bytes := 8) Tryd.underlying76 (by kernel_rfl) (fe_t rfl) (fe_t rfl) rfl (rdl_blk 0 rfl) rfl (by decide) (by first | exact oneI | exact oneF (fun _ => rfl) | exact fun u hu => List.all_eq_true.1 (show List.all _ (fun x => x.oneCell') = true from rfl) u hu | (intro u hu; revert u hu; simp [Value.oneCell'])) (by decide) ⟨by omega, by decide⟩ (fun Aa9 ca9 hca9 => ?_))
                                      refine tl_step rfl (oj_val (y_assign (fe_t rfl)) ?_)
                                      refine tl_nil ?_
                                      refine tx_in ?_
                                      refine tx_then ?_
                                      refine tr_region ?_
                                      refine tl_step rfl (oj_val (y_inc (fe_t rfl) fe_c (by omega)) ?_)
                                      refine tl_step rfl (oj_val (y_move (fe_t rfl)) ?_)
                                      refine tl_nil ?_
                                      apply tx_back5 (i + 1) ({ s with errs := s.errs ++ [2] }) (_) ((⟨_, _, _, _⟩ : Vs)) ((⟨_, _, _, _⟩ : Vs))
                                      · exact (cov_cons (by first | rfl | exact v_int (by omega) | exact v_int (by dsimp only; omega)) (cov_cons (by first | rfl | exact v_int (by omega) | exact v_int (by dsimp only; omega)) (cov_cons (by first | rfl | exact v_int (by omega) | exact v_int (by dsimp only; omega)) (cov_nil))))
                                      · repeat (first | exact over_nil | refine over_put rfl ?_ | refine over_drop rfl ?_)
                                      · exact fun w h => h.pick [2, 3, 4, 5, 6, 7, 8] _ rfl (by decide)
                                      · exact ⟨⟨by omega, ⟨s, hrun, .range (by show o1 os i = 1; omega) hlf (by show o3 os i < 1 ∨ 1500 < o3 os i; omega)⟩, hll, hq, hst, ⟨by simp; omega, by dsimp only; rw [hex, cI, cI, List.map_append]; rfl⟩, hsn, hsx⟩, by omega⟩
                                  · try (exfalso; omega)
                                    all_goals
                                      obtain ⟨k, hk⟩ : ∃ k : Nat, o2 os i = k := ⟨(o2 os i).toNat, by have := hlf.1; omega⟩
                                      have hlk : t.leaf (k : Int) := by rw [← hk]; exact hlf
                                      have hkn : k < t.n := by have := hlk.2.1; omega
                                      have hkc := hcw k
                                      refine tr_region ?_
                                      refine tl_step rfl (oj_val (y_move (fe_t rfl)) ?_)
                                      refine tl_step rfl (oj_val (y_fieldAddr (td := 3) Tryd.underlying75 rfl rfl Tryd.sizeOf3 (o' := 1) rfl (fe_t rfl)) ?_)
                                      refine tl_step rfl (oj_val (y_ldb 0 Tryd.isAgg3 (fe_t rfl) rfl rfl) ?_)
                                      refine tl_step rfl (oj_val (y_fieldAddr (td := 3) Tryd.underlying75 rfl rfl Tryd.sizeOf3 (o' := 2) rfl (fe_t rfl)) ?_)
                                      refine tl_step rfl (oj_val (y_ldb 0 Tryd.isAgg3 (fe_t rfl) rfl rfl) ?_)
                                      refine tl_step rfl (oj_call2 Tryd.call58 fe_f (fel_cons (fe_t rfl) (fel_cons (fe_i hk rfl) (fel_cons (fe_t rfl) fel_nil))) (fun w' hS => inE (hS.pick [6, 4, 5, 3, 0, 1, 2, 7] [_, _, _, _, _, _, _, _] rfl (by decide)) g htn hll hq hst hwf.bd (by omega) hkn (by omega) (by omega)) (fun l2 hI => ?_))
                                      refine tl_nil ?_
                                      refine tx_in ?_
                                      refine tx_then ?_
                                      refine tr_region ?_
                                      refine tl_step rfl (oj_val (y_move (fe_t rfl)) ?_)
                                      refine tl_step rfl (oj_val (y_move (fe_t rfl)) ?_)
                                      refine tl_step rfl (oj_slice1 Tryd.underlying76 Tryd.sizeOf25 Tryd.zeroValue25 (fe_t rfl) (by decide) rfl (fun b10 => ?_))
                                      refine tl_step rfl (oj_append (i := 7) (s := 1) (z := (.int .i64 0)) (bytes := 8) Tryd.underlying76 (by kernel_rfl) (fe_t rfl) (fe_t rfl) rfl (rdl_blk 0 rfl) rfl (by decide) (by first | exact oneI | exact oneF (fun _ => rfl) | exact fun u hu => List.all_eq_true.1 (show List.all _ (fun x => x.oneCell') = true from rfl) u hu | (intro u hu; revert u hu; simp [Value.oneCell'])) (by decide) ⟨by omega, by decide⟩ (fun Aa10 ca10 hca10 => ?_))
                                      refine tl_step rfl (oj_val (y_assign (fe_t rfl)) ?_)
                                      refine tl_nil ?_
                                      refine tx_in ?_
                                      refine tx_then ?_
                                      refine tr_region ?_
                                      refine tl_step rfl (oj_val (y_inc (fe_t rfl) fe_c (by omega)) ?_)
                                      refine tl_step rfl (oj_val (y_move (fe_t rfl)) ?_)
                                      refine tl_nil ?_
                                      apply tx_back5 (i + 1) ({ s with errs := s.errs ++ [0], ds := inF t s.ds k (o3 os i) }) (_) ((⟨_, _, _, _⟩ : Vs)) ((⟨_, _, _, _⟩ : Vs))
                                      · exact (cov_cons (by first | rfl | exact v_int (by omega) | exact v_int (by dsimp only; omega)) (cov_cons (by first | rfl | exact v_int (by omega) | exact v_int (by dsimp only; omega)) (cov_cons (by first | rfl | exact v_int (by omega) | exact v_int (by dsimp only; omega)) (cov_nil))))
                                      · repeat (first | exact over_nil | refine over_put rfl ?_ | refine over_drop rfl ?_)
                                      · exact fun w h => h.pick [6, 7, 4, 2, 3, 1, 8] _ rfl (by decide)
                                      · exact ⟨⟨by omega, ⟨s, hrun, .inn k (by show o1 os i = 1; omega) (by show o2 os i = k; omega) hlk (by show 1 ≤ o3 os i ∧ o3 os i ≤ 1500; omega)⟩, hI.1, hI.2.1, hI.2.2, ⟨by simp; omega, by dsimp only; rw [hex, cI, cI, List.map_append]; rfl⟩, hsn, hsx⟩, by omega⟩
              · try (exfalso; omega)
                all_goals
                  refine tr_exit ?_
                  refine tx_then_exit ?_
                  refine tx_then_exit ?_
                  refine tx_in_exit ?_
                  refine tx_then ?_
                  refine tr_seq ?_
                  refine tr_region ?_
                  refine tl_step rfl (oj_val (y_assign fe_c) ?_)
                  refine tl_nil ?_
                  refine tx_then ?_
                  refine tr_seq ?_
                  refine tr_seq ?_
                  refine tr_region ?_
                  refine tl_step rfl (oj_val (y_move (fe_t rfl)) ?_)
                  refine tl_step rfl (oj_val (y_nilCheck (fe_t rfl)) ?_)
                  refine tl_step rfl (oj_val (y_fieldAddr (td := 127) Tryd.underlying129 rfl rfl Tryd.sizeOf127 (o' := 0) rfl (fe_t rfl)) ?_)
                  refine tl_step rfl (oj_val (y_ldb 5 Tryd.isAgg127 (fe_t rfl) rfl rfl) ?_)
                  refine tl_step rfl (oj_val (y_len Tryd.underlying127 (fe_t rfl)) ?_)
                  refine tl_step rfl (oj_val (y_move fe_c) ?_)
                  refine tl_nil ?_
                  refine tx_then ?_
                  refine tr_block ?_
                  refine tr_add (r := vec 3 1 (.slice none 0 0) 0 []) vec_nil rfl ?_
                  refine tr_loop2 [21, 23, 149, 150, 151, 152, 153, 154, 155, 156, 157, 158, 159] (fun (k : Nat) (z1 : Vs) => [(149, .int .i64 (k : Int)), (21, .slice z1.A z1.n z1.c)]) 0 (fun (k : Nat) (z1 : Vs) => [(0, vec 3 1 (.slice z1.A z1.n z1.c) z1.n z1.xs)]) (fun (k : Nat) (z1 : Vs) => k ≤ n ∧ z1.n = k ∧ z1.xs = cI ((left s).take k)) (fun (k : Nat) (z1 : Vs) => n - k) (0) (⟨none, 0, 0, []⟩ : Vs) (cov_cons (by first | rfl | exact v_int (by omega) | exact v_int (by dsimp only; omega)) (cov_cons (by first | rfl | exact v_int (by omega) | exact v_int (by dsimp only; omega)) (cov_nil))) (fun w h => h) ?_ ?_
                  · try dsimp only
                    exact ⟨by omega, rfl, rfl⟩
                  intro k z1 hp
                  obtain ⟨hk, hzn, hzx⟩ := hp
                  refine tr_seq ?_
                  refine tr_region ?_
                  refine tl_step rfl (oj_val (y_lss (fe_t rfl) (fe_t rfl)) ?_)
                  refine tl_nil ?_
                  refine tx_then ?_
                  refine tr_seq ?_
                  refine tr_condp (fe_t rfl) (fun hq27 => ?_) (fun hq28 => ?_)
                  · try (exfalso; omega)
                    all_goals
                      refine tr_skip ?_
                      refine tx_then ?_
                      refine tr_seq ?_
                      refine tr_block ?_
                      refine tr_seq ?_
                      refine tr_region ?_
                      refine tl_step rfl (oj_val (y_index Tryd.underlying127 Tryd.sizeOf131 (fe_t rfl) (fe_t rfl) (rdl_vec 4 rfl) (by rw [flat_len hcN]; omega) (by decide) (by omega) rfl) ?_)
                      refine tl_step rfl (oj_val (y_ldA (cs := cN (l.getD k Nd.nil)) Tryd.isAgg131 Tryd.sizeOf131 (fe_t rfl) (rdl_vec 4 rfl) rfl (by decide) (flatGA (d := Nd.nil) hcN (by omega))) ?_)
                      refine tl_step rfl (oj_alloc Tryd.zeroValue131 (fun bg => ?_))
                      refine tl_step rfl (oj_storeW 0 Tryd.sizeOf131 (fe_t rfl) (fe_t rfl) rfl rfl rfl rfl rfl (?_))
                      refine tl_nil ?_
                      refine tx_then ?_
                      refine tr_region ?_
                      refine tl_step rfl (oj_val (y_move (fe_t rfl)) ?_)
                      refine tl_step rfl (oj_val (y_fieldAddr (td := 39) Tryd.underlying131 rfl rfl Tryd.sizeOf39 (o' := 9) rfl (fe_t rfl)) ?_)
                      refine tl_step rfl (oj_val (y_ldb 0 Tryd.isAgg39 (fe_t rfl) rfl rfl) ?_)
                      refine tl_step rfl (oj_val (y_len Tryd.underlying39 (fe_t rfl)) ?_)
                      refine tl_step rfl (oj_slice1 Tryd.underlying39 Tryd.sizeOf3 Tryd.zeroValue3 (fe_t rfl) (by decide) rfl (fun b11 => ?_))
                      refine tl_step rfl (oj_append (i := 2) (s := 1) (z := (.int .i64 0)) (bytes := 8) Tryd.underlying39 (by kernel_rfl) (fe_t rfl) (fe_t rfl) rfl (rdl_blk 0 rfl) rfl (by decide) (by first | exact oneI | exact oneF (fun _ => rfl) | exact fun u hu => List.all_eq_true.1 (show List.all _ (fun x => x.oneCell') = true from rfl) u hu | (intro u hu; revert u hu; simp [Value.oneCell'])) (by decide) ⟨by omega, by decide⟩ (fun Aa11 ca11 hca11 => ?_))
                      refine tl_step rfl (oj_val (y_assign (fe_t rfl)) ?_)
                      refine tl_nil ?_
                      refine tx_in ?_
                      refine tx_then ?_
                      refine tr_region ?_
                      refine tl_step rfl (oj_val (y_inc (fe_t rfl) fe_c (by omega)) ?_)
                      refine tl_step rfl (oj_val (y_move (fe_t rfl)) ?_)
                      refine tl_nil ?_
                      apply tx_back2 (k + 1) ((⟨_, _, _, _⟩ : Vs))
                      · exact (cov_cons (by first | rfl | exact v_int (by omega) | exact v_int (by dsimp only; omega)) (cov_cons (by first | rfl | exact v_int (by omega) | exact v_int (by dsimp only; omega)) (cov_nil)))
                      · repeat (first | exact over_nil | refine over_put rfl ?_ | refine over_drop rfl ?_)
                      · exact fun w h => h.pick [2, 3, 4, 5, 6, 7, 8, 9] _ rfl (by decide)
                      · refine ⟨⟨by omega, by dsimp only; omega, ?_⟩, by omega⟩
                        dsimp only
                        rw [hzx, left_take (by rw [hwf.ok.len]; omega), cI, cI, List.map_append, ndq hq k]
                        rfl
                  · try (exfalso; omega)
                    all_goals
                      refine tr_exit ?_
                      refine tx_then_exit ?_
                      refine tx_then_exit ?_
                      refine tx_in_exit ?_
                      refine tx_then ?_
                      refine tr_seq ?_
                      refine tr_region ?_
                      refine tl_step rfl (oj_val (y_move (fe_t rfl)) ?_)
                      refine tl_step rfl (oj_val (y_move (fe_t rfl)) ?_)
                      refine tl_step rfl (oj_val (y_move (fe_t rfl)) ?_)
                      refine tl_step rfl (oj_val (y_assign (fe_t rfl)) ?_)
                      refine tl_step rfl (oj_val (y_assign (fe_t rfl)) ?_)
                      refine tl_step rfl (oj_val (y_assign (fe_t rfl)) ?_)
                      refine tl_step rfl (oj_val (y_assign fe_c) ?_)
                      refine tl_nil ?_
                      refine tx_then ?_
                      refine tr_ret ?_
                      refine tx_ret (res4 Tryd.results28 (rok_t rfl) (rok_t rfl) (rok_t rfl) (rok_t rfl)) (fun w' hS => ?_)
                      obtain rfl : k = n := by omega
                      obtain rfl : i = m := by omega
                      rw [ht] at hrun
                      exact ⟨(s, e1, s1, z1), ⟨hrun, ⟨hen, hex⟩, ⟨hsn, hsx⟩, hzn, by rw [hzx, List.take_of_length_le (by simp [left, hwf.ok.len]; omega)]⟩, rfl, hS.pick [2, 1, 0] _ rfl (by decide)⟩

end Go.Proofs.YtfcpmcdlgkfolaaDoor.Hier
