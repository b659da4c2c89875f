/- the method out where there is something. -/
import Derived.Test.YtfcpmcdlgkfolaaDoorZhHrT
import Derived.Test.YtfcpmcdlgkfolaaDoorZhHrD
namespace Go.Proofs.YtfcpmcdlgkfolaaDoor.Hier
open Go.RowKit Go.Proofs.YtfcpmcdlgkfolaaDoor.E Go.Proofs.YtfcpmcdlgkfolaaDoor.Wfq
open Go.Proofs.YtfcpmcdlgkfolaaDoor.Scfq (hd hd_mem)

set_option maxRecDepth 100000 in
set_option maxHeartbeats 4000000 in
theorem out_some {w0 w : World} {T : List Res} {b : Nat} {G : Option Addr} {n cg : Nat} {t : Tr} {l : List Nd} {s : List D} {M : Int} (hS : St w0 w (blk b [.slice G n cg] :: vec 131 10 (.slice G n cg) n (l.flatMap cN) :: subs 3 1 (l.map Nd.kV) :: subs 3 1 (l.map Nd.wV) :: T)) (g : t.Good) (hn : t.n = n) (hll : l.length = t.n) (hq : l.map Nd.d = s) (hst : Stat t l) (hbd : Bd M s) (hM : M ≤ 78000000000000) (hok : Ok t s) (h0 : ¬ (dn s 0).bytes = 0) (hcw : ∀ k, (l.getD k Nd.nil).d.ws.length ≤ 400) :
    Calls Tryd.prog 56 #[.pointer (some ⟨b, 0, none⟩)] w fun e w' => ∃ q : List Nd, (q.length = t.n ∧ q.map Nd.d = outF t s ∧ Stat t q) ∧ e = .returned (.tuple #[.agg #[(.int .i64 ((dn s 0).leaf)), (.int .i64 ((dn s 0).bytes))], .bool true]) ∧ St w0 w' (blk b [.slice G n cg] :: vec 131 10 (.slice G n cg) n (q.flatMap cN) :: subs 3 1 (q.map Nd.kV) :: subs 3 1 (q.map Nd.wV) :: T) := by
  have hn1 := g.n1
  have hn16 := g.n16
  obtain ⟨r, hrn, hrl, hrk, hrw, _⟩ := ok_leaf g hok (by have := hok.pos 0; omega)
  have hlf : (l.getD 0 Nd.nil).d.leaf = (r : Int) := by rw [← ndq hq]; exact hrl
  have hby : ¬ (l.getD 0 Nd.nil).d.bytes = 0 := by rw [← ndq hq]; exact h0
  have hwl : 0 < (l.getD r Nd.nil).d.ws.length := by rw [← ndq hq]; exact hrw
  have hwe : (l.getD r Nd.nil).d.ws.length = (dn s r).ws.length := by rw [ndq hq]
  have hlt := g.lt hrn
  obtain ⟨b1, b2, b3, b4, b5⟩ := hbd r
  refine calls_tr Tryd.func56 Tryd.ntmps56 rfl rfl hS ?_
  refine tr_seq ?_
  refine tr_region ?_
  refine tl_step rfl (oj_alloc Tryd.zeroValue81 (fun bt => ?_))
  refine tl_step rfl (oj_val (y_assign fe_c) ?_)
  refine tl_nil ?_
  refine tx_then ?_
  refine tr_seq ?_
  refine tb_draw 17 (sel _ [0, 1, 2, 3, 4]) (fun w h => h.sel _ rfl (by decide)) rfl ?_
  refine tb_float (i := 0) rfl (by kernel_rfl) rfl (wants_none rfl) (yq_of (y_move (fe_t rfl))) ?_
  refine tb_float (i := 1) rfl (by kernel_rfl) rfl (wants_none rfl) (yq_of (y_nilCheck (fe_t rfl))) ?_
  refine tb_float (i := 2) rfl (by kernel_rfl) rfl (wants_none rfl) (yq_of (y_fieldAddr (td := 127) Tryd.underlying129 rfl rfl Tryd.sizeOf127 (o' := 0) rfl (fe_t rfl))) ?_
  refine tb_float (i := 3) rfl (by kernel_rfl) rfl (wants_none rfl) (yq_of (y_ldb 1 Tryd.isAgg127 (fe_t rfl) rfl rfl)) ?_
  refine tb_float (i := 4) rfl (by kernel_rfl) rfl (wants_none rfl) (yq_of (y_index (j := 0) Tryd.underlying127 Tryd.sizeOf131 (fe_t rfl) (show FE _ _ _ (.int .i64 ((0 : Nat) : Int)) from fe_c) (rdl_vec 2 rfl) (by rw [flat_len hcN]; omega) (by decide) (by omega) rfl)) ?_
  refine tb_float (i := 5) rfl (by kernel_rfl) rfl (wants_none rfl) (yq_of (y_fieldAddrE (td := 3) Tryd.underlying131 rfl rfl Tryd.sizeOf3 rfl (fe_t rfl) (rdl_vec 2 rfl) (by rw [flat_len hcN]; omega))) ?_
  refine tb_float (i := 6) rfl (by kernel_rfl) rfl (wants_none rfl) (yq_of (y_ld Tryd.isAgg3 (fe_t rfl) (rdl_vec 2 rfl) (flatG (d := Nd.nil) (i := 4) hcN (by omega) rfl))) ?_
  refine tb_float (i := 7) rfl (by kernel_rfl) rfl (wants_none rfl) (yq_of (y_move (fe_t rfl))) ?_
  refine tb_float (i := 8) rfl (by kernel_rfl) rfl (wants_none rfl) (yq_of (y_nilCheck (fe_t rfl))) ?_
  refine tb_float (i := 9) rfl (by kernel_rfl) rfl (wants_none rfl) (yq_of (y_fieldAddr (td := 127) Tryd.underlying129 rfl rfl Tryd.sizeOf127 (o' := 0) rfl (fe_t rfl))) ?_
  refine tb_float (i := 10) rfl (by kernel_rfl) rfl (wants_none rfl) (yq_of (y_ldb 1 Tryd.isAgg127 (fe_t rfl) rfl rfl)) ?_
  refine tb_float (i := 11) rfl (by kernel_rfl) rfl (wants_none rfl) (yq_of (y_index (j := 0) Tryd.underlying127 Tryd.sizeOf131 (fe_t rfl) (show FE _ _ _ (.int .i64 ((0 : Nat) : Int)) from fe_c) (rdl_vec 2 rfl) (by rw [flat_len hcN]; omega) (by decide) (by omega) rfl)) ?_
  refine tb_float (i := 12) rfl (by kernel_rfl) rfl (wants_none rfl) (yq_of (y_fieldAddrE (td := 3) Tryd.underlying131 rfl rfl Tryd.sizeOf3 rfl (fe_t rfl) (rdl_vec 2 rfl) (by rw [flat_len hcN]; omega))) ?_
  refine tb_float (i := 13) rfl (by kernel_rfl) rfl (wants_none rfl) (yq_of (y_ld Tryd.isAgg3 (fe_t rfl) (rdl_vec 2 rfl) (flatG (d := Nd.nil) (i := 5) hcN (by omega) rfl))) ?_
  refine tb_float (i := 14) rfl (by kernel_rfl) rfl (wants_none rfl) (yq_of ((fun {u0 u1} hx hb => y_build (is := [0, 1]) (vs := [u0, u1]) (cs := [u0, u1]) rfl hx hb) (fel_cons (fe_t rfl) (fel_cons (fe_t rfl) fel_nil)) (by kernel_rfl))) ?_
  refine tb_one2 (i := 15) rfl (by kernel_rfl) (by kernel_rfl) (wants_none rfl) (oj_alloc Tryd.zeroValue81 (fun bu => ⟨fun w h => h.pick [1, 2, 3, 4, 5] _ rfl (by decide), ?_⟩))
  refine tb_one2 (i := 16) rfl (by kernel_rfl) (by kernel_rfl) (wants_none rfl) (oj_storeW 0 Tryd.sizeOf81 (fe_t rfl) (fe_t rfl) rfl rfl rfl rfl rfl (⟨fun w h => h.pick [1, 2, 3, 4, 5] _ rfl (by decide), ?_⟩))
  refine tb_done (by kernel_rfl) ?_
  refine tx_then ?_
  refine tr_seq ?_
  refine tr_seq ?_
  refine tr_region ?_
  refine tl_step rfl (oj_val (y_fieldAddr (td := 3) Tryd.underlying81 rfl rfl Tryd.sizeOf3 (o' := 1) rfl (fe_t rfl)) ?_)
  refine tl_step rfl (oj_val (y_ldb 0 Tryd.isAgg3 (fe_t rfl) rfl rfl) ?_)
  refine tl_step rfl (oj_val (y_eq (fe_t rfl) fe_c) ?_)
  refine tl_nil ?_
  refine tx_then ?_
  refine tr_condp (fe_t rfl) (fun hq1 => ?_) (fun hq2 => ?_)
  · omega
  · try (exfalso; omega)
    all_goals
      refine tr_skip ?_
      refine tx_then ?_
      refine tr_seq ?_
      refine tb_draw 8 (sel _ [0, 1, 2, 3, 4, 5]) (fun w h => h.sel _ rfl (by decide)) rfl ?_
      refine tb_float (i := 0) rfl (by kernel_rfl) rfl (wants_none rfl) (yq_of (y_move (fe_t rfl))) ?_
      refine tb_float (i := 1) rfl (by kernel_rfl) rfl (wants_none rfl) (yq_of (y_nilCheck (fe_t rfl))) ?_
      refine tb_float (i := 2) rfl (by kernel_rfl) rfl (wants_none rfl) (yq_of (y_fieldAddr (td := 127) Tryd.underlying129 rfl rfl Tryd.sizeOf127 (o' := 0) rfl (fe_t rfl))) ?_
      refine tb_float (i := 3) rfl (by kernel_rfl) rfl (wants_none rfl) (yq_of (y_ldb 2 Tryd.isAgg127 (fe_t rfl) rfl rfl)) ?_
      refine tb_float (i := 4) rfl (by kernel_rfl) rfl (wants_none rfl) (yq_of (y_fieldAddr (td := 3) Tryd.underlying81 rfl rfl Tryd.sizeOf3 (o' := 0) rfl (fe_t rfl))) ?_
      refine tb_float (i := 5) rfl (by kernel_rfl) rfl (wants_none rfl) (yq_of (y_ldb 0 Tryd.isAgg3 (fe_t rfl) rfl rfl)) ?_
      refine tb_float (i := 6) rfl (by kernel_rfl) rfl (wants_none rfl) (yq_of (y_index Tryd.underlying127 Tryd.sizeOf131 (fe_t rfl) (fe_i hlf rfl) (rdl_vec 3 rfl) (by rw [flat_len hcN]; omega) (by decide) (by omega) rfl)) ?_
      refine tb_float (i := 7) rfl (by kernel_rfl) rfl (wants_none rfl) (yq_of (y_assign (fe_t rfl))) ?_
      refine tb_done (by kernel_rfl) ?_
      refine tx_then ?_
      refine tr_seq ?_
      refine tr_subCut 5 r rfl (map_at (d := Nd.nil) Nd.wV (by omega)) (by show 1 ≤ (l.getD r Nd.nil).d.ws.length; omega) cut_w ?_
      refine tr_region ?_
      refine tl_step rfl (oj_val (y_move (fe_t rfl)) ?_)
      refine tl_step rfl (oj_val (y_move (fe_t rfl)) ?_)
      refine tl_step rfl (oj_val (y_nilCheckE (fe_t rfl) (rdl_vec 3 rfl) (by rw [flat_len hcN]; omega)) ?_)
      refine tl_step rfl (oj_val (y_fieldAddrE (td := 39) Tryd.underlying131 rfl rfl Tryd.sizeOf39 rfl (fe_t rfl) (rdl_vec 3 rfl) (by rw [flat_len hcN]; omega)) ?_)
      refine tl_step rfl (oj_val (y_ld Tryd.isAgg39 (fe_t rfl) (rdl_vec 3 rfl) (flatG (d := Nd.nil) (i := 9) hcN (by omega) rfl)) ?_)
      refine tl_step rfl (oj_val (y_cutL (l := 1) Tryd.underlying39 Tryd.sizeOf3 (fe_t rfl) fe_c (by omega)) ?_)
      refine tl_step rfl (oj_val (y_nilCheckE (fe_t rfl) (rdl_vec 3 rfl) (by rw [flat_len hcN]; omega)) ?_)
      refine tl_step rfl (oj_val (y_fieldAddrE (td := 39) Tryd.underlying131 rfl rfl Tryd.sizeOf39 rfl (fe_t rfl) (rdl_vec 3 rfl) (by rw [flat_len hcN]; omega)) ?_)
      refine tl_step rfl (oj_storeG (i := 3) Nd.nil (⟨(l.getD r Nd.nil).up, (l.getD r Nd.nil).w, (l.getD r Nd.nil).kA, (l.getD r Nd.nil).kc, (l.getD r Nd.nil).ks, (l.getD r Nd.nil).sum, cutA (l.getD r Nd.nil).wA 1 (l.getD r Nd.nil).wc 1, (l.getD r Nd.nil).wc - 1, ⟨(l.getD r Nd.nil).d.leaf, (l.getD r Nd.nil).d.bytes, (l.getD r Nd.nil).d.bg, (l.getD r Nd.nil).d.en, (l.getD r Nd.nil).d.tm, (l.getD r Nd.nil).d.ws.drop 1⟩⟩ : Nd) hcN Tryd.sizeOf39 (fe_t rfl) (fe_t rfl) rfl rfl rfl (by (try rw [List.length_set]); omega) rfl (by simp [cN]) (?_))
      refine tl_nil ?_
      refine tx_then ?_
      refine tr_seq ?_
      generalize hl1 : l.set r (⟨(l.getD r Nd.nil).up, (l.getD r Nd.nil).w, (l.getD r Nd.nil).kA, (l.getD r Nd.nil).kc, (l.getD r Nd.nil).ks, (l.getD r Nd.nil).sum, cutA (l.getD r Nd.nil).wA 1 (l.getD r Nd.nil).wc 1, (l.getD r Nd.nil).wc - 1, ⟨(l.getD r Nd.nil).d.leaf, (l.getD r Nd.nil).d.bytes, (l.getD r Nd.nil).d.bg, (l.getD r Nd.nil).d.en, (l.getD r Nd.nil).d.tm, (l.getD r Nd.nil).d.ws.drop 1⟩⟩ : Nd) = l1
      obtain ⟨hl1n, hl1k, hl1o, hl1q, hl1s⟩ := nd_step hl1 hll (by omega) hq hst rfl rfl rfl rfl
      have hl1kv := kV_same hl1 rfl
      refine tr_as (r' := subs 3 1 (l1.map Nd.kV)) 4 rfl (congrArg (subs _ _) hl1kv.symm) ?_
      refine tr_region ?_
      refine tl_step rfl (oj_val (y_move (fe_t rfl)) ?_)
      refine tl_step rfl (oj_val (y_nilCheckE (fe_t rfl) (rdl_vec 3 rfl) (by rw [flat_len hcN]; omega)) ?_)
      refine tl_step rfl (oj_val (y_fieldAddrE (td := 3) Tryd.underlying131 rfl rfl Tryd.sizeOf3 rfl (fe_t rfl) (rdl_vec 3 rfl) (by rw [flat_len hcN]; omega)) ?_)
      refine tl_step rfl (oj_storeG (i := 3) Nd.nil (Nd.upd (l1.getD r Nd.nil) ⟨(l1.getD r Nd.nil).d.leaf, 0, (l1.getD r Nd.nil).d.bg, (l1.getD r Nd.nil).d.en, (l1.getD r Nd.nil).d.tm, (l1.getD r Nd.nil).d.ws⟩) hcN Tryd.sizeOf3 (fe_t rfl) fe_c rfl rfl rfl (by (try rw [List.length_set]); omega) rfl (rfl) (?_))
      refine tl_nil ?_
      refine tx_then ?_
      refine tr_seq ?_
      refine tr_seq ?_
      generalize hl2 : l1.set r (Nd.upd (l1.getD r Nd.nil) ⟨(l1.getD r Nd.nil).d.leaf, 0, (l1.getD r Nd.nil).d.bg, (l1.getD r Nd.nil).d.en, (l1.getD r Nd.nil).d.tm, (l1.getD r Nd.nil).d.ws⟩) = l2
      obtain ⟨hl2n, hl2k, hl2o, hl2q, hl2s⟩ := nd_step hl2 hl1n (by omega) hl1q hl1s rfl rfl rfl rfl
      have hl2kv := kV_same hl2 rfl
      have hl2wv := wV_same hl2 rfl
      refine tr_as (r' := subs 3 1 (l2.map Nd.kV)) 4 rfl (congrArg (subs _ _) hl2kv.symm) ?_
      refine tr_as (r' := subs 3 1 (l2.map Nd.wV)) 5 rfl (congrArg (subs _ _) hl2wv.symm) ?_
      have hs2 : l2.map Nd.d = s.set r { dn s r with bytes := 0, ws := (dn s r).ws.drop 1 } := by rw [hl2q, List.set_set]; simp only [Nd.upd, hl1k, ndq hq]
      have hw2 : (l2.getD r Nd.nil).d.ws = (dn s r).ws.drop 1 := by rw [hl2k]; dsimp only [Nd.upd]; rw [hl1k, ndq hq]
      have hwl2 : (l2.getD r Nd.nil).d.ws.length = (dn s r).ws.length - 1 := by rw [hw2, List.length_drop]
      have hbd2 : Bd M (s.set r { dn s r with bytes := 0, ws := (dn s r).ws.drop 1 }) := hbd.set (Int.le_refl _) ⟨by simp, b2, b3, b4, fun x hx => b5 x (List.mem_of_mem_drop hx)⟩
      refine tr_region ?_
      refine tl_step rfl (oj_val (y_move (fe_t rfl)) ?_)
      refine tl_step rfl (oj_val (y_nilCheckE (fe_t rfl) (rdl_vec 3 rfl) (by rw [flat_len hcN]; omega)) ?_)
      refine tl_step rfl (oj_val (y_fieldAddrE (td := 39) Tryd.underlying131 rfl rfl Tryd.sizeOf39 rfl (fe_t rfl) (rdl_vec 3 rfl) (by rw [flat_len hcN]; omega)) ?_)
      refine tl_step rfl (oj_val (y_ld Tryd.isAgg39 (fe_t rfl) (rdl_vec 3 rfl) (flatG (d := Nd.nil) (i := 9) hcN (by omega) rfl)) ?_)
      refine tl_step rfl (oj_val (y_len Tryd.underlying39 (fe_t rfl)) ?_)
      refine tl_step rfl (oj_val (y_gtr (fe_t rfl) fe_c) ?_)
      refine tl_nil ?_
      refine tx_then ?_
      refine tr_condp (fe_t rfl) (fun hq3 => ?_) (fun hq4 => ?_)
      · try (exfalso; omega)
        all_goals
          have hhd := hd_pos (hbd r) (by omega)
          have hhb : 0 ≤ hd (l2.getD r Nd.nil).d.ws ∧ hd (l2.getD r Nd.nil).d.ws ≤ 1500 := by rw [hw2]; omega
          refine tb_draw 12 (sel _ [0, 1, 2]) (fun w h => h.sel _ rfl (by decide)) rfl ?_
          refine tb_float (i := 0) rfl (by kernel_rfl) rfl (wants_none rfl) (yq_of (y_move (fe_t rfl))) ?_
          refine tb_float (i := 1) rfl (by kernel_rfl) rfl (wants_none rfl) (yq_of (y_fieldAddr (td := 3) Tryd.underlying81 rfl rfl Tryd.sizeOf3 (o' := 0) rfl (fe_t rfl))) ?_
          refine tb_float (i := 2) rfl (by kernel_rfl) rfl (wants_none rfl) (yq_of (y_ldb 0 Tryd.isAgg3 (fe_t rfl) rfl rfl)) ?_
          refine tb_float (i := 3) rfl (by kernel_rfl) rfl (wants_none rfl) (yq_of (y_fieldAddr (td := 3) Tryd.underlying81 rfl rfl Tryd.sizeOf3 (o' := 0) rfl (fe_t rfl))) ?_
          refine tb_float (i := 4) rfl (by kernel_rfl) rfl (wants_none rfl) (yq_of (y_ldb 0 Tryd.isAgg3 (fe_t rfl) rfl rfl)) ?_
          refine tb_float (i := 5) rfl (by kernel_rfl) rfl (wants_none rfl) (yq_of (y_move (fe_t rfl))) ?_
          refine tb_one2 (i := 6) rfl (by kernel_rfl) (by kernel_rfl) (wants_none rfl) (oj_val (y_nilCheckE (fe_t rfl) (rdl_vec 3 rfl) (by rw [flat_len hcN]; omega)) (⟨fun w h => h.pick [0, 1, 2] _ rfl (by decide), ?_⟩))
          refine tb_one2 (i := 7) rfl (by kernel_rfl) (by kernel_rfl) (wants_none rfl) (oj_val (y_fieldAddrE (td := 39) Tryd.underlying131 rfl rfl Tryd.sizeOf39 rfl (fe_t rfl) (rdl_vec 3 rfl) (by rw [flat_len hcN]; omega)) (⟨fun w h => h.pick [0, 1, 2] _ rfl (by decide), ?_⟩))
          refine tb_one2 (i := 8) rfl (by kernel_rfl) (by kernel_rfl) (wants_none rfl) (oj_val (y_ld Tryd.isAgg39 (fe_t rfl) (rdl_vec 3 rfl) (flatG (d := Nd.nil) (i := 9) hcN (by omega) rfl)) (⟨fun w h => h.pick [0, 1, 2] _ rfl (by decide), ?_⟩))
          refine tb_one2 (i := 9) rfl (by kernel_rfl) (by kernel_rfl) (wants_none rfl) (oj_val (y_indexI (m := 0) Tryd.underlying39 Tryd.sizeOf3 (fe_t rfl) fe_c (subG (f := Nd.wV) (d := Nd.nil) 5 rfl (by omega)) (by simp [Nd.wV, cI]) (by decide) (by decide) (by omega) rfl) (⟨fun w h => h.pick [0, 1, 2] _ rfl (by decide), ?_⟩))
          refine tb_one2 (i := 10) rfl (by kernel_rfl) (by kernel_rfl) (wants_none rfl) (oj_val (y_ld Tryd.isAgg3 (fe_t rfl) (subG (f := Nd.wV) (d := Nd.nil) 5 rfl (by omega)) (hdI (by omega))) (⟨fun w h => h.pick [0, 1, 2] _ rfl (by decide), ?_⟩))
          refine tb_one2 (i := 11) rfl (by kernel_rfl) (by kernel_rfl) (wants_none rfl) (oj_call2 Tryd.call83 fe_f (fel_cons (fe_t rfl) (fel_cons (fe_i hlf rfl) (fel_cons (fe_t rfl) (fel_cons (fe_t rfl) (fel_cons fe_c fel_nil))))) (fun w' hS => offerE (pickT (l := [_, _, _, _, _, _]) hS [2, 3, 4, 5, 0, 1] rfl (by decide)) g hn hl2n hs2 hl2s hbd2 (by omega) hrn hhb (lf := (l.getD 0 Nd.nil).d.leaf) (ag := true)) (fun q1 hQ1 => ⟨fun w h => h.pick [4, 5, 0] _ rfl (by decide), ?_⟩))
          refine tb_done (by kernel_rfl) ?_
          refine tx_then ?_
          refine tr_seq ?_
          refine tr_seq ?_
          replace hQ1 : q1.length = t.n ∧ q1.map Nd.d = goneF t s r ∧ Stat t q1 := ⟨hQ1.1, by rw [hQ1.2.1, hlf, hw2]; unfold goneF; rw [if_neg (by omega)]; exact offer_over (d := { dn s r with ws := (dn s r).ws.drop 1 }) (by rw [← hq, List.length_map]; omega), hQ1.2.2⟩
          have hu1 := (hQ1.2.2 r hrn).up
          refine tr_region ?_
          refine tl_step rfl (oj_val (y_move (fe_t rfl)) ?_)
          refine tl_step rfl (oj_val (y_nilCheckE (fe_t rfl) (rdl_vec 1 rfl) (by rw [flat_len hcN]; omega)) ?_)
          refine tl_step rfl (oj_val (y_fieldAddrE (td := 3) Tryd.underlying131 rfl rfl Tryd.sizeOf3 rfl (fe_t rfl) (rdl_vec 1 rfl) (by rw [flat_len hcN]; omega)) ?_)
          refine tl_step rfl (oj_val (y_ld Tryd.isAgg3 (fe_t rfl) (rdl_vec 1 rfl) (flatG (d := Nd.nil) (i := 0) hcN (by omega) rfl)) ?_)
          refine tl_step rfl (oj_val (y_assign (fe_t rfl)) ?_)
          refine tl_nil ?_
          refine tx_then ?_
          refine tr_block ?_
          refine tr_loop4 [6, 66, 67, 68, 69, 70, 71, 72, 73, 74, 75, 76, 77, 78] (fun (f : Nat) (c : Int) (sc : List D) (l3 : List Nd) => [(6, .int .i64 c)]) 0 (fun (f : Nat) (c : Int) (sc : List D) (l3 : List Nd) => [(1, vec 131 10 (.slice G n cg) n (l3.flatMap cN)), (2, subs 3 1 (l3.map Nd.kV)), (3, subs 3 1 (l3.map Nd.wV))]) (fun (f : Nat) (c : Int) (sc : List D) (l3 : List Nd) => (c < f ∧ c < t.n ∧ -1 ≤ c ∧ f ≤ 17) ∧ upOut t 17 (goneF t s r) (t.u r) = upOut t f sc c ∧ l3.length = t.n ∧ l3.map Nd.d = sc ∧ Stat t l3 ∧ Bd (M + 8000000000 + (17 - (f : Int)) * 9000000000) sc) (fun (f : Nat) (c : Int) (sc : List D) (l3 : List Nd) => f) (17) (t.u r) (goneF t s r) (q1) (cov_cons (by first | rfl | exact v_int (by omega) | exact v_bool (by simp [*])) (cov_nil)) (fun w h => h) ?_ ?_
          · try dsimp only
            exact ⟨by omega, rfl, hQ1.1, hQ1.2.1, hQ1.2.2, (gone_bd g hrn hrw hbd).mono (by omega)⟩
          intro f c sc l3 hp
          obtain ⟨⟨hcf, hcn, hc1, hf17⟩, hup, hl3n, hq3, hst3, hbd3⟩ := hp
          refine tr_seq ?_
          refine tr_seq ?_
          refine tr_region ?_
          refine tl_step rfl (oj_val (y_move (fe_t rfl)) ?_)
          refine tl_step rfl (oj_val (y_geq (fe_t rfl) fe_c) ?_)
          refine tl_nil ?_
          refine tx_then ?_
          refine tr_condp (fe_t rfl) (fun hq5 => ?_) (fun hq6 => ?_)
          · try (exfalso; omega)
            all_goals
              refine tr_skip ?_
              refine tx_then ?_
              refine tr_seq ?_
              refine tr_block ?_
              obtain ⟨p, rfl⟩ : ∃ p : Nat, c = p := ⟨c.toNat, by omega⟩
              have hpn : p < t.n := by omega
              have hltp := g.lt hpn
              refine tr_region ?_
              refine tl_step rfl (oj_val (y_move (fe_t rfl)) ?_)
              refine tl_step rfl (oj_val (y_move (fe_t rfl)) ?_)
              refine tl_step rfl (oj_call2 Tryd.call84 fe_f (fel_cons (fe_t rfl) (fel_cons (fe_t rfl) (fel_cons fe_c fel_nil))) (fun w' hS => pickE (pickT (l := [_, _, _, _, _, _]) hS [0, 1, 2, 3, 4, 5] rfl (by decide)) g hn hl3n hq3 hst3 hbd3 (by omega) (k := p) (ag := true) hpn) (fun q2 hQ2 => ?_))
              refine tl_nil ?_
              refine tx_in ?_
              refine tx_then ?_
              have hu2 := (hQ2.2.2 p hpn).up
              refine tr_region ?_
              refine tl_step rfl (oj_val (y_move (fe_t rfl)) ?_)
              refine tl_step rfl (oj_val (y_nilCheck (fe_t rfl)) ?_)
              refine tl_step rfl (oj_val (y_fieldAddr (td := 127) Tryd.underlying129 rfl rfl Tryd.sizeOf127 (o' := 0) rfl (fe_t rfl)) ?_)
              refine tl_step rfl (oj_val (y_ldb 0 Tryd.isAgg127 (fe_t rfl) rfl rfl) ?_)
              refine tl_step rfl (oj_val (y_move (fe_t rfl)) ?_)
              refine tl_step rfl (oj_val (y_index Tryd.underlying127 Tryd.sizeOf131 (fe_t rfl) (fe_t rfl) (rdl_vec 1 rfl) (by rw [flat_len hcN]; omega) (by decide) (by omega) rfl) ?_)
              refine tl_step rfl (oj_val (y_fieldAddrE (td := 3) Tryd.underlying131 rfl rfl Tryd.sizeOf3 rfl (fe_t rfl) (rdl_vec 1 rfl) (by rw [flat_len hcN]; omega)) ?_)
              refine tl_step rfl (oj_val (y_ld Tryd.isAgg3 (fe_t rfl) (rdl_vec 1 rfl) (flatG (d := Nd.nil) (i := 0) hcN (by omega) rfl)) ?_)
              refine tl_step rfl (oj_val (y_assign (fe_t rfl)) ?_)
              refine tl_nil ?_
              apply tx_back4 (f - 1) (t.u p) (pick t sc p true) (q2)
              · exact (cov_cons (by first | rfl | exact v_int (by omega) | exact v_bool (by simp [*])) (cov_nil))
              · repeat (first | exact over_nil | refine over_put rfl ?_ | refine over_drop rfl ?_)
              · exact fun w h => h
              · exact ⟨⟨by omega, by rw [hup, upOut_go (by omega)], hQ2.1, hQ2.2.1, hQ2.2.2, (pick_bd g hpn hbd3).mono (by omega)⟩, by omega⟩
          · try (exfalso; omega)
            all_goals
              refine tr_exit ?_
              refine tx_then_exit ?_
              refine tx_then_exit ?_
              refine tx_in_exit ?_
              refine tx_then ?_
              refine tr_seq ?_
              refine tr_region ?_
              refine tl_step rfl (oj_val (y_ldbA 4 Tryd.isAgg81 Tryd.sizeOf81 (fe_t rfl) rfl rfl rfl) ?_)
              refine tl_step rfl (oj_storeW 5 Tryd.sizeOf81 (fe_t rfl) (fe_t rfl) rfl rfl rfl rfl rfl (?_))
              refine tl_step rfl (oj_val (y_assign fe_c) ?_)
              refine tl_nil ?_
              refine tx_then ?_
              refine tr_ret ?_
              refine tx_ret (res2 Tryd.results56 (rok_b 5 Tryd.isAgg81 Tryd.sizeOf81 rfl rfl rfl) (rok_t rfl)) (fun w' hS => ?_)
              have h1 := pickT (l := [_, _, _, _, _, _]) hS [0, 1, 2, 3] rfl (by decide)
              exact ⟨l3, ⟨hl3n, by rw [hq3]; unfold outF; rw [hrl, Int.toNat_natCast, hup, upOut_stop (by omega)], hst3⟩, by rw [ndq hq 0]; rfl, h1⟩
      · try (exfalso; omega)
        all_goals
          refine tr_skip ?_
          refine tx_then ?_
          refine tr_seq ?_
          refine tr_seq ?_
          have hQ1 : l2.length = t.n ∧ l2.map Nd.d = goneF t s r ∧ Stat t l2 := ⟨hl2n, by rw [hs2]; unfold goneF; rw [if_pos (by omega)], hl2s⟩
          generalize l2 = q1 at hQ1 ⊢
          refine tr_norm (L' := _ :: _ :: _ :: _ :: _ :: _ :: T) (fun w h => pickT (l := [_, _, _, _, _, _]) h [2, 3, 4, 5, 0, 1] rfl (by decide)) ?_
          have hu1 := (hQ1.2.2 r hrn).up
          refine tr_region ?_
          refine tl_step rfl (oj_val (y_move (fe_t rfl)) ?_)
          refine tl_step rfl (oj_val (y_nilCheckE (fe_t rfl) (rdl_vec 1 rfl) (by rw [flat_len hcN]; omega)) ?_)
          refine tl_step rfl (oj_val (y_fieldAddrE (td := 3) Tryd.underlying131 rfl rfl Tryd.sizeOf3 rfl (fe_t rfl) (rdl_vec 1 rfl) (by rw [flat_len hcN]; omega)) ?_)
          refine tl_step rfl (oj_val (y_ld Tryd.isAgg3 (fe_t rfl) (rdl_vec 1 rfl) (flatG (d := Nd.nil) (i := 0) hcN (by omega) rfl)) ?_)
          refine tl_step rfl (oj_val (y_assign (fe_t rfl)) ?_)
          refine tl_nil ?_
          refine tx_then ?_
          refine tr_block ?_
          refine tr_loop4 [6, 66, 67, 68, 69, 70, 71, 72, 73, 74, 75, 76, 77, 78] (fun (f : Nat) (c : Int) (sc : List D) (l3 : List Nd) => [(6, .int .i64 c)]) 0 (fun (f : Nat) (c : Int) (sc : List D) (l3 : List Nd) => [(1, vec 131 10 (.slice G n cg) n (l3.flatMap cN)), (2, subs 3 1 (l3.map Nd.kV)), (3, subs 3 1 (l3.map Nd.wV))]) (fun (f : Nat) (c : Int) (sc : List D) (l3 : List Nd) => (c < f ∧ c < t.n ∧ -1 ≤ c ∧ f ≤ 17) ∧ upOut t 17 (goneF t s r) (t.u r) = upOut t f sc c ∧ l3.length = t.n ∧ l3.map Nd.d = sc ∧ Stat t l3 ∧ Bd (M + 8000000000 + (17 - (f : Int)) * 9000000000) sc) (fun (f : Nat) (c : Int) (sc : List D) (l3 : List Nd) => f) (17) (t.u r) (goneF t s r) (q1) (cov_cons (by first | rfl | exact v_int (by omega) | exact v_bool (by simp [*])) (cov_nil)) (fun w h => h) ?_ ?_
          · try dsimp only
            exact ⟨by omega, rfl, hQ1.1, hQ1.2.1, hQ1.2.2, (gone_bd g hrn hrw hbd).mono (by omega)⟩
          intro f c sc l3 hp
          obtain ⟨⟨hcf, hcn, hc1, hf17⟩, hup, hl3n, hq3, hst3, hbd3⟩ := hp
          refine tr_seq ?_
          refine tr_seq ?_
          refine tr_region ?_
          refine tl_step rfl (oj_val (y_move (fe_t rfl)) ?_)
          refine tl_step rfl (oj_val (y_geq (fe_t rfl) fe_c) ?_)
          refine tl_nil ?_
          refine tx_then ?_
          refine tr_condp (fe_t rfl) (fun hq7 => ?_) (fun hq8 => ?_)
          · try (exfalso; omega)
            all_goals
              refine tr_skip ?_
              refine tx_then ?_
              refine tr_seq ?_
              refine tr_block ?_
              obtain ⟨p, rfl⟩ : ∃ p : Nat, c = p := ⟨c.toNat, by omega⟩
              have hpn : p < t.n := by omega
              have hltp := g.lt hpn
              refine tr_region ?_
              refine tl_step rfl (oj_val (y_move (fe_t rfl)) ?_)
              refine tl_step rfl (oj_val (y_move (fe_t rfl)) ?_)
              refine tl_step rfl (oj_call2 Tryd.call84 fe_f (fel_cons (fe_t rfl) (fel_cons (fe_t rfl) (fel_cons fe_c fel_nil))) (fun w' hS => pickE (pickT (l := [_, _, _, _, _, _]) hS [0, 1, 2, 3, 4, 5] rfl (by decide)) g hn hl3n hq3 hst3 hbd3 (by omega) (k := p) (ag := true) hpn) (fun q2 hQ2 => ?_))
              refine tl_nil ?_
              refine tx_in ?_
              refine tx_then ?_
              have hu2 := (hQ2.2.2 p hpn).up
              refine tr_region ?_
              refine tl_step rfl (oj_val (y_move (fe_t rfl)) ?_)
              refine tl_step rfl (oj_val (y_nilCheck (fe_t rfl)) ?_)
              refine tl_step rfl (oj_val (y_fieldAddr (td := 127) Tryd.underlying129 rfl rfl Tryd.sizeOf127 (o' := 0) rfl (fe_t rfl)) ?_)
              refine tl_step rfl (oj_val (y_ldb 0 Tryd.isAgg127 (fe_t rfl) rfl rfl) ?_)
              refine tl_step rfl (oj_val (y_move (fe_t rfl)) ?_)
              refine tl_step rfl (oj_val (y_index Tryd.underlying127 Tryd.sizeOf131 (fe_t rfl) (fe_t rfl) (rdl_vec 1 rfl) (by rw [flat_len hcN]; omega) (by decide) (by omega) rfl) ?_)
              refine tl_step rfl (oj_val (y_fieldAddrE (td := 3) Tryd.underlying131 rfl rfl Tryd.sizeOf3 rfl (fe_t rfl) (rdl_vec 1 rfl) (by rw [flat_len hcN]; omega)) ?_)
              refine tl_step rfl (oj_val (y_ld Tryd.isAgg3 (fe_t rfl) (rdl_vec 1 rfl) (flatG (d := Nd.nil) (i := 0) hcN (by omega) rfl)) ?_)
              refine tl_step rfl (oj_val (y_assign (fe_t rfl)) ?_)
              refine tl_nil ?_
              apply tx_back4 (f - 1) (t.u p) (pick t sc p true) (q2)
              · exact (cov_cons (by first | rfl | exact v_int (by omega) | exact v_bool (by simp [*])) (cov_nil))
              · repeat (first | exact over_nil | refine over_put rfl ?_ | refine over_drop rfl ?_)
              · exact fun w h => h
              · exact ⟨⟨by omega, by rw [hup, upOut_go (by omega)], hQ2.1, hQ2.2.1, hQ2.2.2, (pick_bd g hpn hbd3).mono (by omega)⟩, by omega⟩
          · try (exfalso; omega)
            all_goals
              refine tr_exit ?_
              refine tx_then_exit ?_
              refine tx_then_exit ?_
              refine tx_in_exit ?_
              refine tx_then ?_
              refine tr_seq ?_
              refine tr_region ?_
              refine tl_step rfl (oj_val (y_ldbA 4 Tryd.isAgg81 Tryd.sizeOf81 (fe_t rfl) rfl rfl rfl) ?_)
              refine tl_step rfl (oj_storeW 5 Tryd.sizeOf81 (fe_t rfl) (fe_t rfl) rfl rfl rfl rfl rfl (?_))
              refine tl_step rfl (oj_val (y_assign fe_c) ?_)
              refine tl_nil ?_
              refine tx_then ?_
              refine tr_ret ?_
              refine tx_ret (res2 Tryd.results56 (rok_b 5 Tryd.isAgg81 Tryd.sizeOf81 rfl rfl rfl) (rok_t rfl)) (fun w' hS => ?_)
              have h1 := pickT (l := [_, _, _, _, _, _]) hS [0, 1, 2, 3] rfl (by decide)
              exact ⟨l3, ⟨hl3n, by rw [hq3]; unfold outF; rw [hrl, Int.toNat_natCast, hup, upOut_stop (by omega)], hst3⟩, by rw [ndq hq 0]; rfl, h1⟩

end Go.Proofs.YtfcpmcdlgkfolaaDoor.Hier
